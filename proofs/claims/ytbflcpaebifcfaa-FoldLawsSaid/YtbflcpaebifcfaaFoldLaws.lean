/-
  FoldLaws is true: the loop over both types in stages; each step's law of numbers by what wraps add.
  No conditions.
-/
import Derived.Test.YtbflcpaebifcfaaRows
import Derived.Test.YtbflcpaebifcfaaChecked
import Derived.WalkKit
import Derived.ProofKit
import Derived.OpenShut
import Derived.Below
import Derived.ChangeSame
import Derived.Test.YtbflcpaebifcfaaEwZl
namespace Go.Proofs.Ytbflcpaebifcfaa.foldLaws
open Go.ChangeShapes Go.WideShapes Go.ChangeAt Go.RowKit
open Go.Ev
set_option linter.unusedVariables false
set_option linter.unusedSimpArgs false

theorem own : ownKnob Try.prog.godebug = none := by kernel_rfl
theorem mixed : Try.prog.follows .mixedOrders = true := Checked.mixed Try.checked
theorem works_run : isTrue ((evD Try.prog (cxOf noIng) true 1000 40).1 [] 6 [] ⟨[], []⟩) = true := by kernel_rfl
theorem works_contract : FnOk Try.prog 6 [] [.one .b] (fun _ => [1]) := fun l hl w => closed_hook ⟨rfl, rfl, rfl, rfl, rfl, rfl⟩ (hm := mixed) (hh := fun F => no_hooks rfl F) (h := works_run) (w := w)
def flTru : List Ent := [⟨6, [], [.one .b], 0⟩]
def flSs : List Sh := [.one (.i .i32), .one (.i .i32)]
def flS0 : Shape := ⟨argT 0 (symSh flSs 0), []⟩
def flS1 : Shape := ⟨[(0, .symi .i32 0), (1, .symi .i32 1), (5, .symi .i64 2)], []⟩
def flSX : Shape := ⟨[(0, .symi .i32 0)], []⟩
def flS2 : Shape := ⟨[(0, .symi .i32 0), (1, .symi .i32 1), (5, .symi .i64 2), (6, .symi .i32 3), (7, .symi .i32 4)], []⟩
def flS3 : Shape := ⟨[(0, .symi .i32 0), (1, .symi .i32 1), (5, .symi .i64 2), (6, .symi .i32 3), (7, .symi .i32 4), (8, .symi .i32 5)], []⟩
def flS4 : Shape := ⟨[(0, .symi .i32 0), (1, .symi .i32 1), (5, .symi .i64 2), (6, .symi .i32 3), (7, .symi .i32 4), (8, .symi .i32 5), (10, .symi .i32 6), (11, .symb 7), (12, .symi .i32 8)], []⟩
def flSE : Shape := ⟨[(4, .symb 0)], []⟩
def flK1 : List (Option IntKind) := [some .i32, some .i32, some .i64]
def flK2 : List (Option IntKind) := [some .i32, some .i32, some .i64, some .i32, some .i32]
def flK3 : List (Option IntKind) := [some .i32, some .i32, some .i64, some .i32, some .i32, some .i32]
def flK4 : List (Option IntKind) := [some .i32, some .i32, some .i64, some .i32, some .i32, some .i32, some .i32, none, some .i32]

theorem fl_tru : ∀ e, e ∈ flTru → FnOk Try.prog e.f e.ins [.one .b] (fun _ => [1]) := by
  intro e he
  simp only [flTru, List.mem_singleton] at he
  subst he
  exact works_contract

set_option maxRecDepth 100000 in
def flAG : List SDef := []

def flAT : LT := .e

def flAW : Sw := .run (.leaf .normal flS1 [] [(0, .symi .i32 0), (1, .symi .i32 1), (2, .int .i64 1)] [])
set_option maxRecDepth 100000 in
def flBG : List SDef := [.bin .leq (.symi .i64 2) (.int .i64 2)]

def flBT : LT := .n (.e) 202111091 3 (.bin .leq (.symi .i64 2) (.int .i64 2)) (.e)

def flBW : Sw := .run (.node 3 (.leaf .normal flS1 [] [(0, .symi .i32 0), (1, .symi .i32 1), (2, .symi .i64 2)] []) (.leaf (.exit 0) flSX [] [(0, .symi .i32 0)] []))
set_option maxRecDepth 100000 in
def flCG : List SDef := [.conv .i64 (.symi .i32 0),
  .conv .i16 (.symi .i64 3),
  .conv .i32 (.symi .i16 4),
  .conv .i64 (.symi .i32 1),
  .conv .i16 (.symi .i64 6),
  .conv .i32 (.symi .i16 7),
  .conv .i32 (.symi .i64 3),
  .conv .i32 (.symi .i64 6),
  .bin .eql (.symi .i64 2) (.int .i64 1),
  .ite (.symb 11) (.symi .i32 5) (.symi .i32 9),
  .ite (.symb 11) (.symi .i32 8) (.symi .i32 10)]

def flCT : LT := .n (.n (.n (.n (.e) 332 3 (.conv .i64 (.symi .i32 0)) (.e)) 103000641 6 (.conv .i64 (.symi .i32 1)) (.e)) 202061035 11 (.bin .eql (.symi .i64 2) (.int .i64 1)) (.n (.e) 309001259 4 (.conv .i16 (.symi .i64 3)) (.n (.e) 309001259 9 (.conv .i32 (.symi .i64 3)) (.e)))) 411833222 12 (.ite (.symb 11) (.symi .i32 5) (.symi .i32 9)) (.n (.n (.e) 412001568 5 (.conv .i32 (.symi .i16 4)) (.e)) 618002186 7 (.conv .i16 (.symi .i64 6)) (.n (.n (.e) 618002186 10 (.conv .i32 (.symi .i64 6)) (.e)) 721002495 8 (.conv .i32 (.symi .i16 7)) (.n (.e) 1009835016 13 (.ite (.symb 11) (.symi .i32 8) (.symi .i32 10)) (.e))))

def flCW : Sw := .pick 2 1 (.run (.leaf .normal flS2 [] [(0, .symi .i32 0), (1, .symi .i32 1), (2, .symi .i64 2), (3, .symi .i32 5), (4, .symi .i32 8)] [])) (.pick 2 2 (.run (.leaf .normal flS2 [] [(0, .symi .i32 0), (1, .symi .i32 1), (2, .symi .i64 2), (3, .symi .i32 9), (4, .symi .i32 10)] [])) (.dead))
set_option maxRecDepth 100000 in
def flDG : List SDef := [.conv .i64 (.symi .i32 3),
  .conv .i64 (.symi .i32 4),
  .bin .add (.symi .i64 5) (.symi .i64 6),
  .conv .i16 (.symi .i64 7),
  .conv .i32 (.symi .i16 8),
  .conv .i64 (.symi .i32 9),
  .bin .sub (.symi .i64 10) (.symi .i64 6),
  .conv .i16 (.symi .i64 11),
  .conv .i32 (.symi .i16 12),
  .bin .eql (.symi .i32 13) (.symi .i32 3),
  .un .not (.symb 14),
  .conv .i16 (.symi .i64 5),
  .conv .i32 (.symi .i16 16),
  .bin .neq (.symi .i32 17) (.symi .i32 3),
  .un .xor (.symi .i64 5),
  .conv .i32 (.symi .i64 19),
  .conv .i64 (.symi .i32 20),
  .un .xor (.symi .i64 21),
  .conv .i32 (.symi .i64 22),
  .bin .neq (.symi .i32 23) (.symi .i32 3),
  .un .neg (.symi .i64 5),
  .conv .i16 (.symi .i64 25),
  .conv .i32 (.symi .i16 26),
  .bin .sub (.int .i64 0) (.symi .i64 5),
  .conv .i16 (.symi .i64 28),
  .conv .i32 (.symi .i16 29),
  .bin .eql (.symi .i32 30) (.symi .i32 27),
  .un .not (.symb 31),
  .conv .i32 (.symi .i64 7),
  .conv .i64 (.symi .i32 33),
  .bin .sub (.symi .i64 34) (.symi .i64 6),
  .conv .i32 (.symi .i64 35),
  .bin .eql (.symi .i32 36) (.symi .i32 3),
  .un .not (.symb 37),
  .conv .i32 (.symi .i64 5),
  .bin .neq (.symi .i32 39) (.symi .i32 3),
  .conv .i32 (.symi .i64 25),
  .conv .i32 (.symi .i64 28),
  .bin .eql (.symi .i32 42) (.symi .i32 41),
  .un .not (.symb 43),
  .bin .eql (.symi .i64 2) (.int .i64 1),
  .ite (.symb 45) (.symi .i32 9) (.symi .i32 33),
  .conv .i64 (.symi .i32 46),
  .bin .sub (.symi .i64 47) (.symi .i64 6),
  .conv .i16 (.symi .i64 48),
  .conv .i32 (.symi .i16 49),
  .conv .i32 (.symi .i64 48),
  .ite (.symb 45) (.symi .i32 50) (.symi .i32 51),
  .bin .eql (.symi .i32 52) (.symi .i32 3),
  .un .not (.symb 53),
  .ite (.symb 45) (.symi .i32 17) (.symi .i32 39),
  .bin .neq (.symi .i32 55) (.symi .i32 3),
  .ite (.symb 45) (.symi .i32 27) (.symi .i32 41),
  .ite (.symb 45) (.symi .i32 30) (.symi .i32 42),
  .bin .eql (.symi .i32 58) (.symi .i32 57),
  .un .not (.symb 59)]

def flDT : LT := .n (.n (.n (.n (.n (.n (.e) 48176737 44 (.un .not (.symb 43)) (.e)) 59261904 12 (.conv .i16 (.symi .i64 11)) (.n (.e) 65928773 43 (.bin .eql (.symi .i32 42) (.symi .i32 41)) (.e))) 118523476 23 (.conv .i32 (.symi .i64 22)) (.n (.n (.e) 125452973 35 (.bin .sub (.symi .i64 34) (.symi .i64 6)) (.e)) 131872637 24 (.bin .neq (.symi .i32 23) (.symi .i32 3)) (.n (.e) 142656852 56 (.bin .neq (.symi .i32 55) (.symi .i32 3)) (.e)))) 162262213 13 (.conv .i32 (.symi .i16 12)) (.n (.n (.n (.e) 177785048 34 (.conv .i64 (.symi .i32 33)) (.e)) 195611427 14 (.bin .eql (.symi .i32 13) (.symi .i32 3)) (.n (.e) 202061035 45 (.bin .eql (.symi .i64 2) (.int .i64 1)) (.e))) 309001259 5 (.conv .i64 (.symi .i32 3)) (.n (.n (.e) 340305561 15 (.un .not (.symb 14)) (.e)) 363111586 57 (.ite (.symb 45) (.symi .i32 27) (.symi .i32 41)) (.e)))) 364715085 48 (.bin .sub (.symi .i64 47) (.symi .i64 6)) (.n (.n (.n (.n (.e) 371134742 37 (.bin .eql (.symi .i32 36) (.symi .i32 3)) (.e)) 383785666 36 (.conv .i32 (.symi .i64 35)) (.n (.e) 412001568 6 (.conv .i64 (.symi .i32 4)) (.e))) 417669660 7 (.bin .add (.symi .i64 5) (.symi .i64 6)) (.n (.e) 427524403 26 (.conv .i16 (.symi .i64 25)) (.n (.e) 427524403 41 (.conv .i32 (.symi .i64 25)) (.e)))) 443047238 47 (.conv .i64 (.symi .i32 46)) (.n (.n (.n (.e) 489426007 31 (.bin .eql (.symi .i32 30) (.symi .i32 27)) (.e)) 505001837 19 (.un .xor (.symi .i64 5)) (.n (.e) 505001837 25 (.un .neg (.symi .i64 5)) (.e))) 515001877 16 (.conv .i16 (.symi .i64 5)) (.n (.n (.e) 515001877 39 (.conv .i32 (.symi .i64 5)) (.e)) 515898566 38 (.un .not (.symb 37)) (.e))))) 530524712 27 (.conv .i32 (.symi .i16 26)) (.n (.n (.n (.n (.n (.e) 574263449 17 (.conv .i32 (.symi .i16 16)) (.e)) 590488238 60 (.un .not (.symb 59)) (.n (.e) 599612646 18 (.bin .neq (.symi .i32 17) (.symi .i32 3)) (.e))) 643056199 28 (.bin .sub (.int .i64 0) (.symi .i64 5)) (.n (.e) 649047856 49 (.conv .i16 (.symi .i64 48)) (.n (.e) 649047856 51 (.conv .i32 (.symi .i64 48)) (.e)))) 674135658 40 (.bin .neq (.symi .i32 39) (.symi .i32 3)) (.n (.n (.n (.e) 718589864 55 (.ite (.symb 45) (.symi .i32 17) (.symi .i32 39)) (.e)) 721002495 33 (.conv .i32 (.symi .i64 7)) (.n (.e) 721002495 8 (.conv .i16 (.symi .i64 7)) (.e))) 733139907 59 (.bin .eql (.symi .i32 58) (.symi .i32 57)) (.n (.e) 736525330 29 (.conv .i16 (.symi .i64 28)) (.n (.e) 736525330 42 (.conv .i32 (.symi .i64 28)) (.e))))) 752048165 50 (.conv .i32 (.symi .i16 49)) (.n (.n (.n (.n (.e) 768067224 46 (.ite (.symb 45) (.symi .i32 9) (.symi .i32 33)) (.e)) 824002804 9 (.conv .i32 (.symi .i16 8)) (.n (.e) 839525639 30 (.conv .i32 (.symi .i16 29)) (.e))) 883264376 20 (.conv .i32 (.symi .i64 19)) (.n (.n (.e) 913397763 53 (.bin .eql (.symi .i32 52) (.symi .i32 3)) (.e)) 922671182 11 (.bin .sub (.symi .i64 10) (.symi .i64 6)) (.e))) 927003113 10 (.conv .i64 (.symi .i32 9)) (.n (.n (.n (.e) 961113380 58 (.ite (.symb 45) (.symi .i32 30) (.symi .i32 42)) (.e)) 983620395 32 (.un .not (.symb 31)) (.n (.e) 986264685 21 (.conv .i64 (.symi .i32 20)) (.e))) 1005159089 52 (.ite (.symb 45) (.symi .i32 50) (.symi .i32 51)) (.n (.n (.e) 1047264858 22 (.un .xor (.symi .i64 21)) (.e)) 1058210067 54 (.un .not (.symb 53)) (.e)))))

def flDW : Sw := .pick 2 1 (.run (.node 15 (.dead) (.node 18 (.dead) (.node 24 (.dead) (.node 32 (.dead) (.leaf .normal flS3 [] [(0, .symi .i32 0), (1, .symi .i32 1), (2, .symi .i64 2), (3, .symi .i32 3), (4, .symi .i32 4), (5, .symi .i32 9)] [])))))) (.pick 2 2 (.run (.node 38 (.dead) (.node 40 (.dead) (.node 24 (.dead) (.node 44 (.dead) (.leaf .normal flS3 [] [(0, .symi .i32 0), (1, .symi .i32 1), (2, .symi .i64 2), (3, .symi .i32 3), (4, .symi .i32 4), (5, .symi .i32 33)] [])))))) (.dead))
set_option maxRecDepth 100000 in
def flEG : List SDef := [.bin .eql (.symi .i32 4) (.int .i32 0),
  .conv .i64 (.symi .i32 3),
  .conv .i64 (.symi .i32 4),
  .bin .quo (.symi .i64 7) (.symi .i64 8),
  .conv .i16 (.symi .i64 9),
  .conv .i32 (.symi .i16 10),
  .ite (.symb 6) (.int .i32 0) (.symi .i32 11),
  .un .not (.symb 6),
  .bin .rem (.symi .i64 7) (.symi .i64 8),
  .conv .i32 (.symi .i64 14),
  .ite (.symb 6) (.int .i32 0) (.symi .i32 15),
  .bin .neq (.symi .i32 4) (.int .i32 0),
  .bin .neq (.symb 13) (.symb 17),
  .conv .i32 (.symi .i64 9),
  .ite (.symb 6) (.int .i32 0) (.symi .i32 19),
  .bin .eql (.symi .i64 2) (.int .i64 1),
  .ite (.symb 21) (.symi .i32 11) (.symi .i32 19),
  .ite (.symb 6) (.int .i32 0) (.symi .i32 22)]

def flET : LT := .n (.n (.n (.n (.n (.e) 202061035 21 (.bin .eql (.symi .i64 2) (.int .i64 1)) (.e)) 232635616 9 (.bin .quo (.symi .i64 7) (.symi .i64 8)) (.e)) 232635623 14 (.bin .rem (.symi .i64 7) (.symi .i64 8)) (.n (.e) 309001259 7 (.conv .i64 (.symi .i32 3)) (.e))) 347550487 12 (.ite (.symb 6) (.int .i32 0) (.symi .i32 11)) (.n (.n (.n (.e) 368262831 15 (.conv .i32 (.symi .i64 14)) (.e)) 404011606 6 (.bin .eql (.symi .i32 4) (.int .i32 0)) (.e)) 404011613 17 (.bin .neq (.symi .i32 4) (.int .i32 0)) (.n (.e) 412001568 8 (.conv .i64 (.symi .i32 4)) (.e)))) 481812284 20 (.ite (.symb 6) (.int .i32 0) (.symi .i32 19)) (.n (.n (.n (.n (.e) 606020724 13 (.un .not (.symb 6)) (.e)) 712777610 18 (.bin .neq (.symb 13) (.symb 17)) (.e)) 927003113 10 (.conv .i16 (.symi .i64 9)) (.n (.e) 927003113 19 (.conv .i32 (.symi .i64 9)) (.e))) 934813643 23 (.ite (.symb 6) (.int .i32 0) (.symi .i32 22)) (.n (.n (.e) 951552299 16 (.ite (.symb 6) (.int .i32 0) (.symi .i32 15)) (.e)) 984660823 22 (.ite (.symb 21) (.symi .i32 11) (.symi .i32 19)) (.n (.e) 1030003422 11 (.conv .i32 (.symi .i16 10)) (.e))))

def flEW : Sw := .pick 2 1 (.run (.req (.node 6 (.ok) (.pick 8 0 (.no) (.ok))) (.req (.node 6 (.ok) (.pick 8 0 (.no) (.ok))) (.node 18 (.dead) (.leaf .normal flS4 [] [(0, .symi .i32 0), (1, .symi .i32 1), (2, .symi .i64 2), (3, .symi .i32 3), (4, .symi .i32 4), (5, .symi .i32 5), (6, .symi .i32 12), (7, .symb 13), (8, .symi .i32 16)] []))))) (.pick 2 2 (.run (.req (.node 6 (.ok) (.pick 8 0 (.no) (.ok))) (.req (.node 6 (.ok) (.pick 8 0 (.no) (.ok))) (.node 18 (.dead) (.leaf .normal flS4 [] [(0, .symi .i32 0), (1, .symi .i32 1), (2, .symi .i64 2), (3, .symi .i32 3), (4, .symi .i32 4), (5, .symi .i32 5), (6, .symi .i32 20), (7, .symb 13), (8, .symi .i32 16)] []))))) (.dead))
set_option maxRecDepth 100000 in
def flFG : List SDef := [.conv .i64 (.symi .i32 6),
  .conv .i64 (.symi .i32 4),
  .bin .mul (.symi .i64 9) (.symi .i64 10),
  .conv .i16 (.symi .i64 11),
  .conv .i32 (.symi .i16 12),
  .conv .i64 (.symi .i32 13),
  .conv .i64 (.symi .i32 8),
  .bin .add (.symi .i64 14) (.symi .i64 15),
  .conv .i16 (.symi .i64 16),
  .conv .i32 (.symi .i16 17),
  .bin .eql (.symi .i32 18) (.symi .i32 3),
  .un .not (.symb 19),
  .bin .neq (.symi .i32 8) (.int .i32 0),
  .bin .lss (.symi .i32 8) (.int .i32 0),
  .bin .lss (.symi .i32 3) (.int .i32 0),
  .bin .neq (.symb 22) (.symb 23),
  .conv .i32 (.symi .i64 11),
  .conv .i64 (.symi .i32 25),
  .bin .add (.symi .i64 26) (.symi .i64 15),
  .conv .i32 (.symi .i64 27),
  .bin .eql (.symi .i32 28) (.symi .i32 3),
  .un .not (.symb 29),
  .bin .eql (.symi .i64 2) (.int .i64 1),
  .ite (.symb 31) (.symi .i32 13) (.symi .i32 25),
  .conv .i64 (.symi .i32 32),
  .bin .add (.symi .i64 33) (.symi .i64 15),
  .conv .i16 (.symi .i64 34),
  .conv .i32 (.symi .i16 35),
  .conv .i32 (.symi .i64 34),
  .ite (.symb 31) (.symi .i32 36) (.symi .i32 37),
  .bin .eql (.symi .i32 38) (.symi .i32 3),
  .un .not (.symb 39)]

def flFT : LT := .n (.n (.n (.n (.n (.e) 47601544 11 (.bin .mul (.symi .i64 9) (.symi .i64 10)) (.e)) 59261904 12 (.conv .i16 (.symi .i64 11)) (.n (.n (.e) 59261904 25 (.conv .i32 (.symi .i64 11)) (.e)) 74784739 33 (.conv .i64 (.symi .i32 32)) (.e))) 121887281 16 (.bin .add (.symi .i64 14) (.symi .i64 15)) (.n (.n (.e) 162262213 13 (.conv .i32 (.symi .i16 12)) (.e)) 202061035 31 (.bin .eql (.symi .i64 2) (.int .i64 1)) (.n (.e) 227791406 38 (.ite (.symb 31) (.symi .i32 36) (.symi .i32 37)) (.e)))) 260149090 27 (.bin .add (.symi .i64 26) (.symi .i64 15)) (.n (.n (.n (.e) 265262522 14 (.conv .i64 (.symi .i32 13)) (.e)) 280785357 35 (.conv .i16 (.symi .i64 34)) (.n (.e) 280785357 37 (.conv .i32 (.symi .i64 34)) (.e))) 303011317 23 (.bin .lss (.symi .i32 3) (.int .i32 0)) (.n (.n (.e) 357484824 32 (.ite (.symb 31) (.symi .i32 13) (.symi .i32 25)) (.e)) 383785666 36 (.conv .i32 (.symi .i16 35)) (.n (.e) 412001568 10 (.conv .i64 (.symi .i32 4)) (.e))))) 427524403 26 (.conv .i64 (.symi .i32 25)) (.n (.n (.n (.n (.e) 462504854 24 (.bin .neq (.symb 22) (.symb 23)) (.e)) 573135348 39 (.bin .eql (.symi .i32 38) (.symi .i32 3)) (.n (.e) 574263449 17 (.conv .i16 (.symi .i64 16)) (.e))) 618002186 9 (.conv .i64 (.symi .i32 6)) (.n (.n (.e) 633525021 28 (.conv .i32 (.symi .i64 27)) (.e)) 636874145 29 (.bin .eql (.symi .i32 28) (.symi .i32 3)) (.n (.e) 677263758 18 (.conv .i32 (.symi .i16 17)) (.e)))) 700612942 19 (.bin .eql (.symi .i32 18) (.symi .i32 3)) (.n (.n (.n (.e) 717905232 40 (.un .not (.symb 39)) (.e)) 781613729 30 (.un .not (.symb 29)) (.n (.e) 808012825 21 (.bin .neq (.symi .i32 8) (.int .i32 0)) (.e))) 808012832 22 (.bin .lss (.symi .i32 8) (.int .i32 0)) (.n (.n (.e) 824002804 15 (.conv .i64 (.symi .i32 8)) (.e)) 845322226 20 (.un .not (.symb 19)) (.n (.e) 967151211 34 (.bin .add (.symi .i64 33) (.symi .i64 15)) (.e)))))

def flFW : Sw := .pick 2 1 (.run (.node 7 (.node 20 (.dead) (.node 21 (.node 24 (.dead) (.leaf .normal flS3 [] [(0, .symi .i32 0), (1, .symi .i32 1), (2, .symi .i64 2), (3, .symi .i32 3), (4, .symi .i32 4), (5, .symi .i32 5)] [])) (.leaf .normal flS3 [] [(0, .symi .i32 0), (1, .symi .i32 1), (2, .symi .i64 2), (3, .symi .i32 3), (4, .symi .i32 4), (5, .symi .i32 5)] []))) (.leaf .normal flS3 [] [(0, .symi .i32 0), (1, .symi .i32 1), (2, .symi .i64 2), (3, .symi .i32 3), (4, .symi .i32 4), (5, .symi .i32 5)] []))) (.pick 2 2 (.run (.node 7 (.node 30 (.dead) (.node 21 (.node 24 (.dead) (.leaf .normal flS3 [] [(0, .symi .i32 0), (1, .symi .i32 1), (2, .symi .i64 2), (3, .symi .i32 3), (4, .symi .i32 4), (5, .symi .i32 5)] [])) (.leaf .normal flS3 [] [(0, .symi .i32 0), (1, .symi .i32 1), (2, .symi .i64 2), (3, .symi .i32 3), (4, .symi .i32 4), (5, .symi .i32 5)] []))) (.leaf .normal flS3 [] [(0, .symi .i32 0), (1, .symi .i32 1), (2, .symi .i64 2), (3, .symi .i32 3), (4, .symi .i32 4), (5, .symi .i32 5)] []))) (.dead))
set_option maxRecDepth 100000 in
def flGG : List SDef := [.conv .i64 (.symi .i32 3),
  .conv .i64 (.symi .i32 4),
  .bin .lss (.symi .i64 6) (.symi .i64 7),
  .ite (.symb 8) (.int .i64 1) (.int .i64 0),
  .conv .i32 (.symi .i64 9),
  .bin .gtr (.symi .i64 6) (.symi .i64 7),
  .ite (.symb 11) (.int .i64 1) (.int .i64 0),
  .conv .i32 (.symi .i64 12),
  .bin .eql (.symi .i64 6) (.symi .i64 7),
  .ite (.symb 14) (.int .i64 1) (.int .i64 0),
  .conv .i32 (.symi .i64 15),
  .bin .add (.symi .i32 10) (.symi .i32 13),
  .bin .add (.symi .i32 17) (.symi .i32 16),
  .bin .neq (.symi .i32 18) (.int .i32 1),
  .bin .add (.symi .i32 10) (.symi .i32 16),
  .bin .leq (.symi .i64 6) (.symi .i64 7),
  .ite (.symb 21) (.int .i64 1) (.int .i64 0),
  .conv .i32 (.symi .i64 22),
  .bin .eql (.symi .i32 23) (.symi .i32 20),
  .un .not (.symb 24),
  .bin .add (.symi .i32 13) (.symi .i32 16),
  .bin .geq (.symi .i64 6) (.symi .i64 7),
  .ite (.symb 27) (.int .i64 1) (.int .i64 0),
  .conv .i32 (.symi .i64 28),
  .bin .eql (.symi .i32 29) (.symi .i32 26),
  .un .not (.symb 30),
  .bin .neq (.symi .i64 6) (.symi .i64 7),
  .ite (.symb 32) (.int .i64 1) (.int .i64 0),
  .conv .i32 (.symi .i64 33),
  .bin .eql (.symi .i32 34) (.symi .i32 17),
  .un .not (.symb 35),
  .bin .eql (.symi .i32 10) (.int .i32 1),
  .bin .geq (.symi .i32 3) (.symi .i32 4),
  .conv .i64 (.symi .i32 16),
  .bin .eql (.symi .i64 39) (.int .i64 0),
  .ite (.symb 40) (.int .i64 1) (.int .i64 0),
  .conv .i32 (.symi .i64 41),
  .bin .neq (.symi .i32 42) (.symi .i32 17)]

def flGT : LT := .n (.n (.n (.n (.n (.n (.e) 38296948 9 (.ite (.symb 8) (.int .i64 1) (.int .i64 0)) (.e)) 45072126 30 (.bin .eql (.symi .i32 29) (.symi .i32 26)) (.e)) 61239647 20 (.bin .add (.symi .i32 10) (.symi .i32 16)) (.n (.e) 104920740 17 (.bin .add (.symi .i32 10) (.symi .i32 13)) (.e))) 118523476 23 (.conv .i32 (.symi .i64 22)) (.n (.n (.n (.e) 153181555 33 (.ite (.symb 32) (.int .i64 1) (.int .i64 0)) (.e)) 162262213 13 (.conv .i32 (.symi .i64 12)) (.e)) 177785048 34 (.conv .i32 (.symi .i64 33)) (.n (.e) 191476424 41 (.ite (.symb 40) (.int .i64 1) (.int .i64 0)) (.e)))) 276597064 25 (.un .not (.symb 24)) (.n (.n (.n (.n (.e) 309001259 6 (.conv .i64 (.symi .i32 3)) (.e)) 313891900 36 (.un .not (.symb 35)) (.e)) 364240556 26 (.bin .add (.symi .i32 13) (.symi .i32 16)) (.n (.e) 412001568 7 (.conv .i64 (.symi .i32 4)) (.e))) 415377524 43 (.bin .neq (.symi .i32 42) (.symi .i32 17)) (.n (.n (.n (.e) 455310709 12 (.ite (.symb 11) (.int .i64 1) (.int .i64 0)) (.e)) 471263140 16 (.conv .i32 (.symi .i64 15)) (.e)) 531900447 28 (.ite (.symb 27) (.int .i64 1) (.int .i64 0)) (.n (.e) 574263449 39 (.conv .i64 (.symi .i32 16)) (.e))))) 600174321 24 (.bin .eql (.symi .i32 23) (.symi .i32 20)) (.n (.n (.n (.n (.n (.e) 602703837 38 (.bin .geq (.symi .i32 3) (.symi .i32 4)) (.e)) 681116920 35 (.bin .eql (.symi .i32 34) (.symi .i32 17)) (.e)) 717796730 40 (.bin .eql (.symi .i64 39) (.int .i64 0)) (.n (.e) 736525330 29 (.conv .i32 (.symi .i64 28)) (.e))) 744324063 19 (.bin .neq (.symi .i32 18) (.int .i32 1)) (.n (.n (.n (.e) 768241768 18 (.bin .add (.symi .i32 17) (.symi .i32 16)) (.e)) 771614752 22 (.ite (.symb 21) (.int .i64 1) (.int .i64 0)) (.e)) 862023618 14 (.bin .eql (.symi .i64 6) (.symi .i64 7)) (.n (.e) 862023625 32 (.bin .neq (.symi .i64 6) (.symi .i64 7)) (.e)))) 862023632 8 (.bin .lss (.symi .i64 6) (.symi .i64 7)) (.n (.n (.n (.n (.e) 862023639 21 (.bin .leq (.symi .i64 6) (.symi .i64 7)) (.e)) 862023646 11 (.bin .gtr (.symi .i64 6) (.symi .i64 7)) (.e)) 862023653 27 (.bin .geq (.symi .i64 6) (.symi .i64 7)) (.n (.e) 872324470 15 (.ite (.symb 14) (.int .i64 1) (.int .i64 0)) (.e))) 882617062 31 (.un .not (.symb 30)) (.n (.n (.e) 927003113 10 (.conv .i32 (.symi .i64 9)) (.e)) 1001787520 42 (.conv .i32 (.symi .i64 41)) (.n (.e) 1010063459 37 (.bin .eql (.symi .i32 10) (.int .i32 1)) (.e)))))

def flGW : Sw := .pick 2 1 (.run (.node 19 (.dead) (.node 25 (.dead) (.node 31 (.dead) (.node 36 (.dead) (.node 37 (.node 38 (.dead) (.node 43 (.dead) (.leaf .normal flS3 [] [(0, .symi .i32 0), (1, .symi .i32 1), (2, .symi .i64 2), (3, .symi .i32 3), (4, .symi .i32 4), (5, .symi .i32 5)] []))) (.node 43 (.dead) (.leaf .normal flS3 [] [(0, .symi .i32 0), (1, .symi .i32 1), (2, .symi .i64 2), (3, .symi .i32 3), (4, .symi .i32 4), (5, .symi .i32 5)] [])))))))) (.pick 2 2 (.run (.node 19 (.dead) (.node 25 (.dead) (.node 31 (.dead) (.node 36 (.dead) (.node 37 (.node 38 (.dead) (.node 43 (.dead) (.leaf .normal flS3 [] [(0, .symi .i32 0), (1, .symi .i32 1), (2, .symi .i64 2), (3, .symi .i32 3), (4, .symi .i32 4), (5, .symi .i32 5)] []))) (.node 43 (.dead) (.leaf .normal flS3 [] [(0, .symi .i32 0), (1, .symi .i32 1), (2, .symi .i64 2), (3, .symi .i32 3), (4, .symi .i32 4), (5, .symi .i32 5)] [])))))))) (.dead))
set_option maxRecDepth 100000 in
def flHG : List SDef := [.conv .i64 (.symi .i32 3),
  .conv .i64 (.symi .i32 4),
  .bin .and (.symi .i64 6) (.symi .i64 7),
  .conv .i32 (.symi .i64 8),
  .bin .or (.symi .i64 6) (.symi .i64 7),
  .conv .i32 (.symi .i64 10),
  .bin .xor (.symi .i64 6) (.symi .i64 7),
  .conv .i32 (.symi .i64 12),
  .bin .shl (.symi .i64 6) (.int .u64 1),
  .conv .i16 (.symi .i64 14),
  .conv .i32 (.symi .i16 15),
  .bin .shr (.symi .i64 6) (.int .u64 1),
  .conv .i32 (.symi .i64 17),
  .conv .i64 (.symi .i32 9),
  .conv .i64 (.symi .i32 11),
  .bin .add (.symi .i64 19) (.symi .i64 20),
  .conv .i16 (.symi .i64 21),
  .conv .i32 (.symi .i16 22),
  .bin .eql (.symi .i32 23) (.symi .i32 5),
  .un .not (.symb 24),
  .bin .sub (.symi .i64 20) (.symi .i64 19),
  .conv .i16 (.symi .i64 26),
  .conv .i32 (.symi .i16 27),
  .bin .eql (.symi .i32 28) (.symi .i32 13),
  .un .not (.symb 29),
  .bin .add (.symi .i64 6) (.symi .i64 6),
  .conv .i16 (.symi .i64 31),
  .conv .i32 (.symi .i16 32),
  .bin .eql (.symi .i32 33) (.symi .i32 16),
  .un .not (.symb 34),
  .conv .i64 (.symi .i32 18),
  .bin .mul (.symi .i64 36) (.int .i64 2),
  .bin .gtr (.symi .i64 37) (.symi .i64 6),
  .bin .add (.symi .i64 37) (.int .i64 1),
  .bin .lss (.symi .i64 39) (.symi .i64 6),
  .conv .i32 (.symi .i64 14),
  .conv .i32 (.symi .i64 21),
  .bin .eql (.symi .i32 42) (.symi .i32 5),
  .un .not (.symb 43),
  .conv .i32 (.symi .i64 26),
  .bin .eql (.symi .i32 45) (.symi .i32 13),
  .un .not (.symb 46),
  .conv .i32 (.symi .i64 31),
  .bin .eql (.symi .i32 48) (.symi .i32 41),
  .un .not (.symb 49),
  .bin .eql (.symi .i64 2) (.int .i64 1),
  .ite (.symb 51) (.symi .i32 16) (.symi .i32 41),
  .ite (.symb 51) (.symi .i32 23) (.symi .i32 42),
  .bin .eql (.symi .i32 53) (.symi .i32 5),
  .un .not (.symb 54),
  .ite (.symb 51) (.symi .i32 28) (.symi .i32 45),
  .bin .eql (.symi .i32 56) (.symi .i32 13),
  .un .not (.symb 57),
  .ite (.symb 51) (.symi .i32 33) (.symi .i32 48),
  .bin .eql (.symi .i32 59) (.symi .i32 52),
  .un .not (.symb 60)]

def flHT : LT := .n (.n (.n (.n (.n (.e) 15523167 22 (.conv .i16 (.symi .i64 21)) (.n (.n (.e) 15523167 42 (.conv .i32 (.symi .i64 21)) (.e)) 48176737 44 (.un .not (.symb 43)) (.e))) 59261904 20 (.conv .i64 (.symi .i32 11)) (.n (.n (.e) 74784739 33 (.conv .i32 (.symi .i16 32)) (.e)) 85471573 55 (.un .not (.symb 54)) (.e))) 118523476 23 (.conv .i32 (.symi .i16 22)) (.n (.n (.n (.e) 162262213 13 (.conv .i32 (.symi .i64 12)) (.e)) 191114147 60 (.bin .eql (.symi .i32 59) (.symi .i32 52)) (.n (.e) 196173032 21 (.bin .add (.symi .i64 19) (.symi .i64 20)) (.e))) 202061035 51 (.bin .eql (.symi .i64 2) (.int .i64 1)) (.n (.n (.e) 212888567 35 (.un .not (.symb 34)) (.e)) 236763039 34 (.bin .eql (.symi .i32 33) (.symi .i32 16)) (.e)))) 276597064 25 (.un .not (.symb 24)) (.n (.n (.n (.n (.e) 309001259 6 (.conv .i64 (.symi .i32 3)) (.e)) 351186736 47 (.un .not (.symb 46)) (.e)) 368262831 15 (.conv .i16 (.symi .i64 14)) (.n (.n (.e) 368262831 41 (.conv .i32 (.symi .i64 14)) (.e)) 388481572 58 (.un .not (.symb 57)) (.n (.e) 412001568 7 (.conv .i64 (.symi .i32 4)) (.e)))) 414895828 37 (.bin .mul (.symi .i64 36) (.int .i64 2)) (.n (.n (.n (.e) 418705941 46 (.bin .eql (.symi .i32 45) (.symi .i32 13)) (.e)) 428453980 38 (.bin .gtr (.symi .i64 37) (.symi .i64 6)) (.n (.e) 455967447 57 (.bin .eql (.symi .i32 56) (.symi .i32 13)) (.e))) 471263140 16 (.conv .i32 (.symi .i16 15)) (.n (.n (.e) 515846082 39 (.bin .add (.symi .i64 37) (.int .i64 1)) (.e)) 518669963 31 (.bin .add (.symi .i64 6) (.symi .i64 6)) (.e))))) 530524712 27 (.conv .i16 (.symi .i64 26)) (.n (.n (.n (.n (.n (.e) 530524712 45 (.conv .i32 (.symi .i64 26)) (.e)) 590101889 43 (.bin .eql (.symi .i32 42) (.symi .i32 5)) (.n (.e) 606062226 14 (.bin .shl (.symi .i64 6) (.int .u64 1)) (.e))) 606062233 17 (.bin .shr (.symi .i64 6) (.int .u64 1)) (.n (.n (.e) 627363395 54 (.bin .eql (.symi .i32 53) (.symi .i32 5)) (.e)) 630454572 40 (.bin .lss (.symi .i64 39) (.symi .i64 6)) (.n (.e) 631876018 52 (.ite (.symb 51) (.symi .i32 16) (.symi .i32 41)) (.e)))) 633525021 28 (.conv .i32 (.symi .i16 27)) (.n (.n (.n (.e) 654196735 50 (.un .not (.symb 49)) (.e)) 671930591 49 (.bin .eql (.symi .i32 48) (.symi .i32 41)) (.n (.e) 677263758 18 (.conv .i32 (.symi .i64 17)) (.e))) 691491571 61 (.un .not (.symb 60)) (.n (.n (.e) 752137773 53 (.ite (.symb 51) (.symi .i32 23) (.symi .i32 42)) (.e)) 780264067 36 (.conv .i64 (.symi .i32 18)) (.e)))) 781613729 30 (.un .not (.symb 29)) (.n (.n (.n (.n (.e) 818579786 24 (.bin .eql (.symi .i32 23) (.symi .i32 5)) (.e)) 824002804 9 (.conv .i32 (.symi .i64 8)) (.n (.e) 849184444 29 (.bin .eql (.symi .i32 28) (.symi .i32 13)) (.e))) 862023576 8 (.bin .and (.symi .i64 6) (.symi .i64 7)) (.n (.n (.e) 862023583 10 (.bin .or (.symi .i64 6) (.symi .i64 7)) (.e)) 862023590 12 (.bin .xor (.symi .i64 6) (.symi .i64 7)) (.e))) 876399540 56 (.ite (.symb 51) (.symi .i32 28) (.symi .i32 45)) (.n (.n (.n (.e) 927003113 19 (.conv .i64 (.symi .i32 9)) (.e)) 1000661307 59 (.ite (.symb 51) (.symi .i32 33) (.symi .i32 48)) (.n (.e) 1027561591 26 (.bin .sub (.symi .i64 20) (.symi .i64 19)) (.e))) 1030003422 11 (.conv .i32 (.symi .i64 10)) (.n (.e) 1045526257 48 (.conv .i32 (.symi .i64 31)) (.n (.e) 1045526257 32 (.conv .i16 (.symi .i64 31)) (.e))))))

def flHW : Sw := .pick 2 1 (.run (.node 25 (.dead) (.node 30 (.dead) (.node 35 (.dead) (.node 38 (.dead) (.node 40 (.dead) (.leaf .normal flS1 [] [(0, .symi .i32 0), (1, .symi .i32 1), (2, .symi .i64 2)] []))))))) (.pick 2 2 (.run (.node 44 (.dead) (.node 47 (.dead) (.node 50 (.dead) (.node 38 (.dead) (.node 40 (.dead) (.leaf .normal flS1 [] [(0, .symi .i32 0), (1, .symi .i32 1), (2, .symi .i64 2)] []))))))) (.dead))
set_option maxRecDepth 100000 in
def flIG : List SDef := [.bin .add (.symi .i64 2) (.int .i64 1)]

def flIT : LT := .n (.e) 202060958 3 (.bin .add (.symi .i64 2) (.int .i64 1)) (.e)

def flIW : Sw := .run (.leaf .normal flS1 [] [(0, .symi .i32 0), (1, .symi .i32 1), (2, .symi .i64 3)] [])
set_option maxRecDepth 100000 in
def flJG : List SDef := [.conv .i64 (.symi .i32 0),
  .conv .i16 (.symi .i64 1),
  .conv .i32 (.symi .i16 2)]

def flJT : LT := .n (.n (.e) 332 1 (.conv .i64 (.symi .i32 0)) (.e)) 103000641 2 (.conv .i16 (.symi .i64 1)) (.n (.e) 206000950 3 (.conv .i32 (.symi .i16 2)) (.e))

def flJW : Sw := .run (.leaf .ret flSE [] [(0, .bool true)] [])
def flAX : Ing := { m := 2, ins := [some .i32, some .i32], G := flAG, T := flAT, hook := trueHook flTru }
theorem flA_ok : okG flAG 2 = true := by kernel_rfl
theorem flA_lt : okLT 2 flAG flAT = true := by kernel_rfl
theorem flA_seg : SegOk Try.prog noTab 292 ((flatC (bodyOf Try.f4)).take 4) flS0 flAX flAW where
  lt := flA_lt
  ok := flA_ok
  hook := fun F => true_hooks rfl fl_tru F
  n0 := rfl
  id := by kernel_rfl
  reck := by kernel_rfl
  tab := rfl
  cuts := rfl
def flBX : Ing := { m := 3, ins := flK1, G := flBG, T := flBT, hook := noHook }
theorem flB_ok : okG flBG 3 = true := by kernel_rfl
theorem flB_lt : okLT 3 flBG flBT = true := by kernel_rfl
theorem flB_seg : SegOk Try.prog noTab 292 ((flatC (loopAt 4 (bodyOf Try.f4))).take 2) flS1 flBX flBW where
  lt := flB_lt
  ok := flB_ok
  hook := fun F => no_hooks rfl F
  n0 := rfl
  id := by kernel_rfl
  reck := by kernel_rfl
  tab := rfl
  cuts := rfl
def flCX : Ing := { m := 3, ins := flK1, G := flCG, T := flCT, hook := noHook }
theorem flC_ok : okG flCG 3 = true := by kernel_rfl
theorem flC_lt : okLT 3 flCG flCT = true := by kernel_rfl
theorem flC_seg : SegOk Try.prog noTab 292 ((flatC (blkAt 2 (loopAt 4 (bodyOf Try.f4)))).take 1) flS1 flCX flCW where
  lt := flC_lt
  ok := flC_ok
  hook := fun F => no_hooks rfl F
  n0 := rfl
  id := by kernel_rfl
  reck := by kernel_rfl
  tab := rfl
  cuts := rfl
def flDX : Ing := { m := 5, ins := flK2, G := flDG, T := flDT, hook := noHook }
theorem flD_ok : okG flDG 5 = true := by kernel_rfl
theorem flD_lt : okLT 5 flDG flDT = true := by kernel_rfl
theorem flD_seg : SegOk Try.prog noTab 292 (((flatC (blkAt 2 (loopAt 4 (bodyOf Try.f4)))).drop 1).take 3) flS2 flDX flDW where
  lt := flD_lt
  ok := flD_ok
  hook := fun F => no_hooks rfl F
  n0 := rfl
  id := by kernel_rfl
  reck := by kernel_rfl
  tab := rfl
  cuts := rfl
def flEX : Ing := { m := 6, ins := flK3, G := flEG, T := flET, hook := noHook }
theorem flE_ok : okG flEG 6 = true := by kernel_rfl
theorem flE_lt : okLT 6 flEG flET = true := by kernel_rfl
theorem flE_seg : SegOk Try.prog noTab 292 (((flatC (blkAt 2 (loopAt 4 (bodyOf Try.f4)))).drop 4).take 4) flS3 flEX flEW where
  lt := flE_lt
  ok := flE_ok
  hook := fun F => no_hooks rfl F
  n0 := rfl
  id := by kernel_rfl
  reck := by kernel_rfl
  tab := rfl
  cuts := rfl
def flFX : Ing := { m := 9, ins := flK4, G := flFG, T := flFT, hook := noHook }
theorem flF_ok : okG flFG 9 = true := by kernel_rfl
theorem flF_lt : okLT 9 flFG flFT = true := by kernel_rfl
theorem flF_seg : SegOk Try.prog noTab 292 (((flatC (blkAt 2 (loopAt 4 (bodyOf Try.f4)))).drop 8).take 2) flS4 flFX flFW where
  lt := flF_lt
  ok := flF_ok
  hook := fun F => no_hooks rfl F
  n0 := rfl
  id := by kernel_rfl
  reck := by kernel_rfl
  tab := rfl
  cuts := rfl
def flGX : Ing := { m := 6, ins := flK3, G := flGG, T := flGT, hook := noHook }
theorem flG_ok : okG flGG 6 = true := by kernel_rfl
theorem flG_lt : okLT 6 flGG flGT = true := by kernel_rfl
theorem flG_seg : SegOk Try.prog noTab 292 (((flatC (blkAt 2 (loopAt 4 (bodyOf Try.f4)))).drop 10).take 5) flS3 flGX flGW where
  lt := flG_lt
  ok := flG_ok
  hook := fun F => no_hooks rfl F
  n0 := rfl
  id := by kernel_rfl
  reck := by kernel_rfl
  tab := rfl
  cuts := rfl
def flHX : Ing := { m := 6, ins := flK3, G := flHG, T := flHT, hook := noHook }
theorem flH_ok : okG flHG 6 = true := by kernel_rfl
theorem flH_lt : okLT 6 flHG flHT = true := by kernel_rfl
theorem flH_seg : SegOk Try.prog noTab 292 ((flatC (blkAt 2 (loopAt 4 (bodyOf Try.f4)))).drop 15) flS3 flHX flHW where
  lt := flH_lt
  ok := flH_ok
  hook := fun F => no_hooks rfl F
  n0 := rfl
  id := by kernel_rfl
  reck := by kernel_rfl
  tab := rfl
  cuts := rfl
def flIX : Ing := { m := 3, ins := flK1, G := flIG, T := flIT, hook := noHook }
theorem flI_ok : okG flIG 3 = true := by kernel_rfl
theorem flI_lt : okLT 3 flIG flIT = true := by kernel_rfl
theorem flI_seg : SegOk Try.prog noTab 292 ((flatC (loopAt 4 (bodyOf Try.f4))).drop 3) flS1 flIX flIW where
  lt := flI_lt
  ok := flI_ok
  hook := fun F => no_hooks rfl F
  n0 := rfl
  id := by kernel_rfl
  reck := by kernel_rfl
  tab := rfl
  cuts := rfl
def flJX : Ing := { m := 1, ins := [some .i32], G := flJG, T := flJT, hook := noHook }
theorem flJ_ok : okG flJG 1 = true := by kernel_rfl
theorem flJ_lt : okLT 1 flJG flJT = true := by kernel_rfl
theorem flJ_seg : SegOk Try.prog noTab 292 ((flatC (bodyOf Try.f4)).drop 5) flSX flJX flJW where
  lt := flJ_lt
  ok := flJ_ok
  hook := fun F => no_hooks rfl F
  n0 := rfl
  id := by kernel_rfl
  reck := by kernel_rfl
  tab := rfl
  cuts := rfl

/-! ### Numbers -/

theorem sp16 (n : Int) : ∃ k : Int, IntKind.i16.wrap n = n + 65536 * k ∧ -32768 ≤ IntKind.i16.wrap n ∧ IntKind.i16.wrap n ≤ 32767 := by
  have h : IntKind.i16.wrap n = if 32768 ≤ n % 65536 then n % 65536 - 65536 else n % 65536 := by simp [IntKind.wrap, IntKind.bits, IntKind.signed]
  by_cases c : 32768 ≤ n % 65536
  · rw [if_pos c] at h; exact ⟨-(n / 65536) - 1, by omega, by omega, by omega⟩
  · rw [if_neg c] at h; exact ⟨-(n / 65536), by omega, by omega, by omega⟩
theorem sp32 (n : Int) : ∃ k : Int, IntKind.i32.wrap n = n + 4294967296 * k ∧ -2147483648 ≤ IntKind.i32.wrap n ∧ IntKind.i32.wrap n ≤ 2147483647 := by
  have h : IntKind.i32.wrap n = if 2147483648 ≤ n % 4294967296 then n % 4294967296 - 4294967296 else n % 4294967296 := by simp [IntKind.wrap, IntKind.bits, IntKind.signed]
  by_cases c : 2147483648 ≤ n % 4294967296
  · rw [if_pos c] at h; exact ⟨-(n / 4294967296) - 1, by omega, by omega, by omega⟩
  · rw [if_neg c] at h; exact ⟨-(n / 4294967296), by omega, by omega, by omega⟩
theorem sp64 (n : Int) : ∃ k : Int, IntKind.i64.wrap n = n + 18446744073709551616 * k ∧ -9223372036854775808 ≤ IntKind.i64.wrap n ∧ IntKind.i64.wrap n ≤ 9223372036854775807 := by
  have h : IntKind.i64.wrap n = if 9223372036854775808 ≤ n % 18446744073709551616 then n % 18446744073709551616 - 18446744073709551616 else n % 18446744073709551616 := by simp [IntKind.wrap, IntKind.bits, IntKind.signed]
  by_cases c : 9223372036854775808 ≤ n % 18446744073709551616
  · rw [if_pos c] at h; exact ⟨-(n / 18446744073709551616) - 1, by omega, by omega, by omega⟩
  · rw [if_neg c] at h; exact ⟨-(n / 18446744073709551616), by omega, by omega, by omega⟩
theorem nat64 (n : Int) : ∃ k : Int, ((BitVec.ofInt 64 n).toNat : Int) = n + 18446744073709551616 * k := by
  rw [BitVec.toNat_ofInt]
  exact ⟨-(n / 18446744073709551616), by omega⟩
theorem cmp64 (n : Int) : ∃ k : Int, ((BitVec.ofInt 64 (-1) ^^^ BitVec.ofInt 64 n).toNat : Int) = -1 - n + 18446744073709551616 * k := by
  have h1 : BitVec.ofInt 64 (-1) = BitVec.allOnes 64 := by decide
  rw [h1, BitVec.allOnes_xor, BitVec.toNat_not]
  obtain ⟨k, hk⟩ := nat64 n
  have := (BitVec.ofInt 64 n).isLt
  exact ⟨1 - k, by omega⟩
theorem and_or (x : Nat) : ∀ y : Nat, (x &&& y) + (x ||| y) = x + y := by
  induction x using Nat.strongRecOn with
  | ind x ih =>
    intro y
    by_cases h : x = 0
    · subst h; simp
    · have := ih (x / 2) (by omega) (y / 2)
      rw [← Nat.and_div_two, ← Nat.or_div_two] at this
      have h1 := Nat.and_mod_two_eq_one (a := x) (b := y)
      have h2 := Nat.or_mod_two_eq_one (a := x) (b := y)
      omega
theorem and_xor (x : Nat) : ∀ y : Nat, (x ||| y) = (x &&& y) + (x ^^^ y) := by
  induction x using Nat.strongRecOn with
  | ind x ih =>
    intro y
    by_cases h : x = 0
    · subst h; simp
    · have := ih (x / 2) (by omega) (y / 2)
      rw [← Nat.and_div_two, ← Nat.or_div_two, ← Nat.xor_div_two] at this
      have h1 := Nat.and_mod_two_eq_one (a := x) (b := y)
      have h2 := Nat.or_mod_two_eq_one (a := x) (b := y)
      have h3 := Nat.xor_mod_two_eq_one (a := x) (b := y)
      omega
theorem tm_pos {a b : Int} (h : 0 ≤ a) : 0 ≤ a.tmod b ∧ a.tmod b ≤ a := by
  refine ⟨Int.tmod_nonneg b h, ?_⟩
  have h1 := Int.natAbs_tmod a b
  have h2 := Nat.mod_le a.natAbs b.natAbs
  have h3 := Int.tmod_nonneg b h
  omega
theorem tm_neg {a b : Int} (h : a ≤ 0) : a ≤ a.tmod b ∧ a.tmod b ≤ 0 := by
  have h1 := tm_pos (a := -a) (b := b) (by omega)
  rw [Int.neg_tmod] at h1
  omega
theorem x16 (a b : Int) (ha : -32768 ≤ a ∧ a ≤ 32767) (hb : -32768 ≤ b ∧ b ≤ 32767) : -32768 ≤ (BitVec.ofInt 64 a ^^^ BitVec.ofInt 64 b).toInt ∧ (BitVec.ofInt 64 a ^^^ BitVec.ofInt 64 b).toInt ≤ 32767 := by
  have e : ∀ n : Int, -32768 ≤ n ∧ n ≤ 32767 → BitVec.ofInt 64 n = (BitVec.ofInt 16 n).signExtend 64 := by
    intro n hn
    apply BitVec.eq_of_toInt_eq
    rw [BitVec.toInt_signExtend_of_le (by decide), BitVec.toInt_ofInt, BitVec.toInt_ofInt]
    simp only [Int.bmod]
    omega
  rw [e a ha, e b hb, ← BitVec.signExtend_xor, BitVec.toInt_signExtend_of_le (by decide)]
  generalize BitVec.ofInt 16 a ^^^ BitVec.ofInt 16 b = z
  have h1 := BitVec.le_toInt z
  have h2 := BitVec.toInt_lt (x := z)
  simp at h1 h2
  omega
/-- what three bit operators make, as numbers -/
theorem bits3 (a b : Int) : ∃ x y z k l : Int, ((BitVec.ofInt 64 a &&& BitVec.ofInt 64 b).toNat : Int) = x ∧ ((BitVec.ofInt 64 a ||| BitVec.ofInt 64 b).toNat : Int) = y ∧ ((BitVec.ofInt 64 a ^^^ BitVec.ofInt 64 b).toNat : Int) = z ∧
    x + y = a + b + 18446744073709551616 * k ∧ y = x + z := by
  obtain ⟨k1, h1⟩ := nat64 a
  obtain ⟨k2, h2⟩ := nat64 b
  refine ⟨_, _, _, k1 + k2, 0, rfl, rfl, rfl, ?_, ?_⟩
  · have := and_or (BitVec.ofInt 64 a).toNat (BitVec.ofInt 64 b).toNat
    rw [BitVec.toNat_and, BitVec.toNat_or]
    omega
  · have := and_xor (BitVec.ofInt 64 a).toNat (BitVec.ofInt 64 b).toNat
    rw [BitVec.toNat_and, BitVec.toNat_or, BitVec.toNat_xor]
    omega
theorem xor16 (a b : Int) (ha : -32768 ≤ a ∧ a ≤ 32767) (hb : -32768 ≤ b ∧ b ≤ 32767) : ∃ k : Int, -32768 ≤ ((BitVec.ofInt 64 a ^^^ BitVec.ofInt 64 b).toNat : Int) + 18446744073709551616 * k ∧ ((BitVec.ofInt 64 a ^^^ BitVec.ofInt 64 b).toNat : Int) + 18446744073709551616 * k ≤ 32767 := by
  have h := x16 a b ha hb
  generalize BitVec.ofInt 64 a ^^^ BitVec.ofInt 64 b = z at h ⊢
  rw [BitVec.toInt_eq_toNat_cond] at h
  split at h
  · exact ⟨0, by omega, by omega⟩
  · exact ⟨-1, by omega, by omega⟩
theorem i32_range {n : Int} (h : IntKind.i32.wrap n = n) : -2147483648 ≤ n ∧ n ≤ 2147483647 := by
  obtain ⟨k, p, q, r⟩ := sp32 n
  rw [h] at q r
  exact ⟨q, r⟩

/-! ### What is so -/

theorem holds_split {τ : Sig} {G : List Fact} : ∀ (F : List Fact), Holds τ (F ++ G) → Holds τ G
  | [], h => h
  | _ :: F, h => holds_split F h.2

def flJ1 (σ : Sig) : Prop := σ.ival 2 = 1 ∨ σ.ival 2 = 2 ∨ σ.ival 2 = 3
def flJb (σ : Sig) : Prop := σ.ival 2 = 1 ∨ σ.ival 2 = 2
def flJ2 (σ : Sig) : Prop := (σ.ival 2 = 1 ∧ -32768 ≤ σ.ival 3 ∧ σ.ival 3 ≤ 32767 ∧ -32768 ≤ σ.ival 4 ∧ σ.ival 4 ≤ 32767) ∨ σ.ival 2 = 2
def flJ3 (σ : Sig) : Prop := flJ2 σ ∧ (σ.ival 2 = 1 → ∃ k, σ.ival 5 = σ.ival 3 + σ.ival 4 + 65536 * k ∧ -32768 ≤ σ.ival 5 ∧ σ.ival 5 ≤ 32767) ∧ (σ.ival 2 = 2 → ∃ k, σ.ival 5 = σ.ival 3 + σ.ival 4 + 4294967296 * k)
def flJ4 (σ : Sig) : Prop := flJ3 σ ∧ σ.bval 7 = (σ.ival 4 != 0) ∧ (σ.ival 4 ≠ 0 → σ.ival 8 = (σ.ival 3).tmod (σ.ival 4) ∧ (σ.ival 2 = 1 → ∃ k, σ.ival 6 = (σ.ival 3).tdiv (σ.ival 4) + 65536 * k) ∧ (σ.ival 2 = 2 → ∃ k, σ.ival 6 = (σ.ival 3).tdiv (σ.ival 4) + 4294967296 * k))
theorem flJ1_agree (σ τ : Sig) (ag : Agree 3 σ τ) (h : flJ1 σ) : flJ1 τ := by
  unfold flJ1 at h ⊢
  rw [← (ag.val 2 (by decide)).1]
  exact h
theorem flJ2_agree (σ τ : Sig) (ag : Agree 5 σ τ) (h : flJ2 σ) : flJ2 τ := by
  unfold flJ2 at h ⊢
  rw [← (ag.val 2 (by decide)).1, ← (ag.val 3 (by decide)).1, ← (ag.val 4 (by decide)).1]
  exact h
theorem flJ3_agree (σ τ : Sig) (ag : Agree 6 σ τ) (h : flJ3 σ) : flJ3 τ := by
  unfold flJ3 flJ2 at h ⊢
  rw [← (ag.val 2 (by decide)).1, ← (ag.val 3 (by decide)).1, ← (ag.val 4 (by decide)).1, ← (ag.val 5 (by decide)).1]
  exact h
theorem flJ4_agree (σ τ : Sig) (ag : Agree 9 σ τ) (h : flJ4 σ) : flJ4 τ := by
  unfold flJ4 flJ3 flJ2 at h ⊢
  rw [← (ag.val 2 (by decide)).1, ← (ag.val 3 (by decide)).1, ← (ag.val 4 (by decide)).1, ← (ag.val 5 (by decide)).1, ← (ag.val 6 (by decide)).1, ← (ag.val 8 (by decide)).1, ← (ag.val 7 (by decide)).2.1]
  exact h
theorem flJb_agree (σ τ : Sig) (ag : Agree 3 σ τ) (h : flJb σ) : flJb τ := by
  unfold flJb at h ⊢
  rw [← (ag.val 2 (by decide)).1]
  exact h
theorem neF {x : Bool} {a b : Int} (h : x = (a != b)) (e : a = b) : x = true → False := by rw [h, e]; simp
theorem nqF {x y : Bool} {a b : Int} (h1 : y = (a == b)) (h : x = !y) (e : a = b) : x = true → False := by rw [h, h1, e]; simp

set_option maxRecDepth 100000 in
theorem flA_ob {W0 : World} {Z : Exit → Act → World → Prop} (τ : Sig) (e : Eqs τ 2 flAG) (ht : τ.tab = noTab) (hin : InsOk τ 2 [some .i32, some .i32]) : segsW τ (fun x s σ2 => (x = .normal ∧ s = flS1 ∧ InsOk σ2 3 flK1 ∧ (flJ1 σ2) ∧ σ2.tab = noTab) ∨ (x ≠ .normal ∧ EndZ noTab 292 W0 Z x s σ2)) flAW [] :=
  fun hF => .inl ⟨rfl, rfl, insOk_asg e hin 12 (by kernel_rfl), .inl rfl, ht⟩
set_option maxRecDepth 100000 in
theorem flC_r (τ : Sig) (e : Eqs τ 3 flCG) (hin : InsOk τ 3 flK1) (hj : flJb τ) : τ.ival 2 = 1 → (-32768 ≤ τ.ival 5 ∧ τ.ival 5 ≤ 32767) ∧ (-32768 ≤ τ.ival 8 ∧ τ.ival 8 ≤ 32767) := by
  have e4 : τ.ival 4 = IntKind.i16.wrap (τ.ival 3) := eqI (e.at 1 _ rfl rfl) rfl
  obtain ⟨k4, p4, q4, r4⟩ := sp16 (τ.ival 3)
  rw [← e4] at p4 q4 r4
  clear e4
  have e5 : τ.ival 5 = IntKind.i32.wrap (τ.ival 4) := eqI (e.at 2 _ rfl rfl) rfl
  obtain ⟨k5, p5, q5, r5⟩ := sp32 (τ.ival 4)
  rw [← e5] at p5 q5 r5
  clear e5
  have e7 : τ.ival 7 = IntKind.i16.wrap (τ.ival 6) := eqI (e.at 4 _ rfl rfl) rfl
  obtain ⟨k7, p7, q7, r7⟩ := sp16 (τ.ival 6)
  rw [← e7] at p7 q7 r7
  clear e7
  have e8 : τ.ival 8 = IntKind.i32.wrap (τ.ival 7) := eqI (e.at 5 _ rfl rfl) rfl
  obtain ⟨k8, p8, q8, r8⟩ := sp32 (τ.ival 7)
  rw [← e8] at p8 q8 r8
  clear e8
  intro _
  omega
set_option maxRecDepth 100000 in
theorem flC_ob {W0 : World} {Z : Exit → Act → World → Prop} {k : Nat} (τ : Sig) (e : Eqs τ 3 flCG) (ht : τ.tab = noTab) (hin : InsOk τ 3 flK1) (hj : flJb τ) (hk : (3 - τ.ival 2).toNat = k) : segsW τ (fun x s σ2 => (x = .normal ∧ s = flS2 ∧ InsOk σ2 5 flK2 ∧ (flJ2 σ2 ∧ (3 - σ2.ival 2).toNat = k) ∧ σ2.tab = noTab) ∨ (x ≠ .normal ∧ EndZ noTab 292 W0 Z x s σ2)) flCW [] := by
  have r := flC_r τ e hin hj
  refine ⟨fun hF => .inl ⟨rfl, rfl, insOk_asg e hin 12 (by kernel_rfl), ⟨.inl ⟨hF.1, (r hF.1).1.1, (r hF.1).1.2, (r hF.1).2.1, (r hF.1).2.2⟩, hk⟩, ht⟩, fun hF => .inl ⟨rfl, rfl, insOk_asg e hin 12 (by kernel_rfl), ⟨.inr hF.1, hk⟩, ht⟩, fun hF => ?_⟩
  simp only [Holds, Fact.holds] at hF
  unfold flJb at hj
  omega

set_option maxRecDepth 100000 in
theorem flD1a (τ : Sig) (e : Eqs τ 5 flDG) (hin : InsOk τ 5 flK2) (hj : flJ2 τ) (ht2 : τ.ival 2 = 1) : τ.ival 13 = τ.ival 3 := by
  have a3 := i32_range (hin 3 .i32 (by decide) rfl)
  have a4 := i32_range (hin 4 .i32 (by decide) rfl)
  have hr : -32768 ≤ τ.ival 3 ∧ τ.ival 3 ≤ 32767 ∧ -32768 ≤ τ.ival 4 ∧ τ.ival 4 ≤ 32767 := by unfold flJ2 at hj; omega
  have e5 : τ.ival 5 = IntKind.i64.wrap (τ.ival 3) := eqI (e.at 0 _ rfl rfl) rfl
  obtain ⟨k5, p5, q5, r5⟩ := sp64 (τ.ival 3)
  rw [← e5] at p5 q5 r5
  clear e5
  have e6 : τ.ival 6 = IntKind.i64.wrap (τ.ival 4) := eqI (e.at 1 _ rfl rfl) rfl
  obtain ⟨k6, p6, q6, r6⟩ := sp64 (τ.ival 4)
  rw [← e6] at p6 q6 r6
  clear e6
  have e7 : τ.ival 7 = IntKind.i64.wrap (τ.ival 5 + τ.ival 6) := eqI (e.at 2 _ rfl rfl) rfl
  obtain ⟨k7, p7, q7, r7⟩ := sp64 (τ.ival 5 + τ.ival 6)
  rw [← e7] at p7 q7 r7
  clear e7
  have e8 : τ.ival 8 = IntKind.i16.wrap (τ.ival 7) := eqI (e.at 3 _ rfl rfl) rfl
  obtain ⟨k8, p8, q8, r8⟩ := sp16 (τ.ival 7)
  rw [← e8] at p8 q8 r8
  clear e8
  have e9 : τ.ival 9 = IntKind.i32.wrap (τ.ival 8) := eqI (e.at 4 _ rfl rfl) rfl
  obtain ⟨k9, p9, q9, r9⟩ := sp32 (τ.ival 8)
  rw [← e9] at p9 q9 r9
  clear e9
  have e10 : τ.ival 10 = IntKind.i64.wrap (τ.ival 9) := eqI (e.at 5 _ rfl rfl) rfl
  obtain ⟨k10, p10, q10, r10⟩ := sp64 (τ.ival 9)
  rw [← e10] at p10 q10 r10
  clear e10
  have e11 : τ.ival 11 = IntKind.i64.wrap (τ.ival 10 - τ.ival 6) := eqI (e.at 6 _ rfl rfl) rfl
  obtain ⟨k11, p11, q11, r11⟩ := sp64 (τ.ival 10 - τ.ival 6)
  rw [← e11] at p11 q11 r11
  clear e11
  have e12 : τ.ival 12 = IntKind.i16.wrap (τ.ival 11) := eqI (e.at 7 _ rfl rfl) rfl
  obtain ⟨k12, p12, q12, r12⟩ := sp16 (τ.ival 11)
  rw [← e12] at p12 q12 r12
  clear e12
  have e13 : τ.ival 13 = IntKind.i32.wrap (τ.ival 12) := eqI (e.at 8 _ rfl rfl) rfl
  obtain ⟨k13, p13, q13, r13⟩ := sp32 (τ.ival 12)
  rw [← e13] at p13 q13 r13
  clear e13
  omega
set_option maxRecDepth 100000 in
theorem flD1b (τ : Sig) (e : Eqs τ 5 flDG) (hin : InsOk τ 5 flK2) (hj : flJ2 τ) (ht2 : τ.ival 2 = 1) : τ.ival 17 = τ.ival 3 := by
  have a3 := i32_range (hin 3 .i32 (by decide) rfl)
  have a4 := i32_range (hin 4 .i32 (by decide) rfl)
  have hr : -32768 ≤ τ.ival 3 ∧ τ.ival 3 ≤ 32767 ∧ -32768 ≤ τ.ival 4 ∧ τ.ival 4 ≤ 32767 := by unfold flJ2 at hj; omega
  have e5 : τ.ival 5 = IntKind.i64.wrap (τ.ival 3) := eqI (e.at 0 _ rfl rfl) rfl
  obtain ⟨k5, p5, q5, r5⟩ := sp64 (τ.ival 3)
  rw [← e5] at p5 q5 r5
  clear e5
  have e16 : τ.ival 16 = IntKind.i16.wrap (τ.ival 5) := eqI (e.at 11 _ rfl rfl) rfl
  obtain ⟨k16, p16, q16, r16⟩ := sp16 (τ.ival 5)
  rw [← e16] at p16 q16 r16
  clear e16
  have e17 : τ.ival 17 = IntKind.i32.wrap (τ.ival 16) := eqI (e.at 12 _ rfl rfl) rfl
  obtain ⟨k17, p17, q17, r17⟩ := sp32 (τ.ival 16)
  rw [← e17] at p17 q17 r17
  clear e17
  omega
set_option maxRecDepth 100000 in
theorem flDc (τ : Sig) (e : Eqs τ 5 flDG) (hin : InsOk τ 5 flK2) (hj : flJ2 τ) (ht2 : τ.ival 2 = τ.ival 2) : τ.ival 23 = τ.ival 3 := by
  have a3 := i32_range (hin 3 .i32 (by decide) rfl)
  have a4 := i32_range (hin 4 .i32 (by decide) rfl)
  have e5 : τ.ival 5 = IntKind.i64.wrap (τ.ival 3) := eqI (e.at 0 _ rfl rfl) rfl
  obtain ⟨k5, p5, q5, r5⟩ := sp64 (τ.ival 3)
  rw [← e5] at p5 q5 r5
  clear e5
  have e19 : τ.ival 19 = IntKind.i64.wrap (BitVec.ofInt 64 (-1) ^^^ BitVec.ofInt 64 (τ.ival 5)).toNat := eqI (e.at 14 _ rfl rfl) rfl
  obtain ⟨k19, p19, q19, r19⟩ := sp64 ((BitVec.ofInt 64 (-1) ^^^ BitVec.ofInt 64 (τ.ival 5)).toNat : Int)
  rw [← e19] at p19 q19 r19
  obtain ⟨n19, m19⟩ := cmp64 (τ.ival 5)
  rw [m19] at p19
  have e20 : τ.ival 20 = IntKind.i32.wrap (τ.ival 19) := eqI (e.at 15 _ rfl rfl) rfl
  obtain ⟨k20, p20, q20, r20⟩ := sp32 (τ.ival 19)
  rw [← e20] at p20 q20 r20
  clear e20
  have e21 : τ.ival 21 = IntKind.i64.wrap (τ.ival 20) := eqI (e.at 16 _ rfl rfl) rfl
  obtain ⟨k21, p21, q21, r21⟩ := sp64 (τ.ival 20)
  rw [← e21] at p21 q21 r21
  clear e21
  have e22 : τ.ival 22 = IntKind.i64.wrap (BitVec.ofInt 64 (-1) ^^^ BitVec.ofInt 64 (τ.ival 21)).toNat := eqI (e.at 17 _ rfl rfl) rfl
  obtain ⟨k22, p22, q22, r22⟩ := sp64 ((BitVec.ofInt 64 (-1) ^^^ BitVec.ofInt 64 (τ.ival 21)).toNat : Int)
  rw [← e22] at p22 q22 r22
  obtain ⟨n22, m22⟩ := cmp64 (τ.ival 21)
  rw [m22] at p22
  have e23 : τ.ival 23 = IntKind.i32.wrap (τ.ival 22) := eqI (e.at 18 _ rfl rfl) rfl
  obtain ⟨k23, p23, q23, r23⟩ := sp32 (τ.ival 22)
  rw [← e23] at p23 q23 r23
  clear e23
  omega
set_option maxRecDepth 100000 in
theorem flD1d (τ : Sig) (e : Eqs τ 5 flDG) (hin : InsOk τ 5 flK2) (hj : flJ2 τ) (ht2 : τ.ival 2 = 1) : τ.ival 30 = τ.ival 27 := by
  have a3 := i32_range (hin 3 .i32 (by decide) rfl)
  have a4 := i32_range (hin 4 .i32 (by decide) rfl)
  have hr : -32768 ≤ τ.ival 3 ∧ τ.ival 3 ≤ 32767 ∧ -32768 ≤ τ.ival 4 ∧ τ.ival 4 ≤ 32767 := by unfold flJ2 at hj; omega
  have e5 : τ.ival 5 = IntKind.i64.wrap (τ.ival 3) := eqI (e.at 0 _ rfl rfl) rfl
  obtain ⟨k5, p5, q5, r5⟩ := sp64 (τ.ival 3)
  rw [← e5] at p5 q5 r5
  clear e5
  have e25 : τ.ival 25 = IntKind.i64.wrap (0 - τ.ival 5) := eqI (e.at 20 _ rfl rfl) rfl
  obtain ⟨k25, p25, q25, r25⟩ := sp64 (0 - τ.ival 5)
  rw [← e25] at p25 q25 r25
  clear e25
  have e26 : τ.ival 26 = IntKind.i16.wrap (τ.ival 25) := eqI (e.at 21 _ rfl rfl) rfl
  obtain ⟨k26, p26, q26, r26⟩ := sp16 (τ.ival 25)
  rw [← e26] at p26 q26 r26
  clear e26
  have e27 : τ.ival 27 = IntKind.i32.wrap (τ.ival 26) := eqI (e.at 22 _ rfl rfl) rfl
  obtain ⟨k27, p27, q27, r27⟩ := sp32 (τ.ival 26)
  rw [← e27] at p27 q27 r27
  clear e27
  have e28 : τ.ival 28 = IntKind.i64.wrap (0 - τ.ival 5) := eqI (e.at 23 _ rfl rfl) rfl
  obtain ⟨k28, p28, q28, r28⟩ := sp64 (0 - τ.ival 5)
  rw [← e28] at p28 q28 r28
  clear e28
  have e29 : τ.ival 29 = IntKind.i16.wrap (τ.ival 28) := eqI (e.at 24 _ rfl rfl) rfl
  obtain ⟨k29, p29, q29, r29⟩ := sp16 (τ.ival 28)
  rw [← e29] at p29 q29 r29
  clear e29
  have e30 : τ.ival 30 = IntKind.i32.wrap (τ.ival 29) := eqI (e.at 25 _ rfl rfl) rfl
  obtain ⟨k30, p30, q30, r30⟩ := sp32 (τ.ival 29)
  rw [← e30] at p30 q30 r30
  clear e30
  omega
set_option maxRecDepth 100000 in
theorem flD1s (τ : Sig) (e : Eqs τ 5 flDG) (hin : InsOk τ 5 flK2) (hj : flJ2 τ) (ht2 : τ.ival 2 = 1) : ∃ k, τ.ival 9 = τ.ival 3 + τ.ival 4 + 65536 * k ∧ -32768 ≤ τ.ival 9 ∧ τ.ival 9 ≤ 32767 := by
  have a3 := i32_range (hin 3 .i32 (by decide) rfl)
  have a4 := i32_range (hin 4 .i32 (by decide) rfl)
  have hr : -32768 ≤ τ.ival 3 ∧ τ.ival 3 ≤ 32767 ∧ -32768 ≤ τ.ival 4 ∧ τ.ival 4 ≤ 32767 := by unfold flJ2 at hj; omega
  have e5 : τ.ival 5 = IntKind.i64.wrap (τ.ival 3) := eqI (e.at 0 _ rfl rfl) rfl
  obtain ⟨k5, p5, q5, r5⟩ := sp64 (τ.ival 3)
  rw [← e5] at p5 q5 r5
  clear e5
  have e6 : τ.ival 6 = IntKind.i64.wrap (τ.ival 4) := eqI (e.at 1 _ rfl rfl) rfl
  obtain ⟨k6, p6, q6, r6⟩ := sp64 (τ.ival 4)
  rw [← e6] at p6 q6 r6
  clear e6
  have e7 : τ.ival 7 = IntKind.i64.wrap (τ.ival 5 + τ.ival 6) := eqI (e.at 2 _ rfl rfl) rfl
  obtain ⟨k7, p7, q7, r7⟩ := sp64 (τ.ival 5 + τ.ival 6)
  rw [← e7] at p7 q7 r7
  clear e7
  have e8 : τ.ival 8 = IntKind.i16.wrap (τ.ival 7) := eqI (e.at 3 _ rfl rfl) rfl
  obtain ⟨k8, p8, q8, r8⟩ := sp16 (τ.ival 7)
  rw [← e8] at p8 q8 r8
  clear e8
  have e9 : τ.ival 9 = IntKind.i32.wrap (τ.ival 8) := eqI (e.at 4 _ rfl rfl) rfl
  obtain ⟨k9, p9, q9, r9⟩ := sp32 (τ.ival 8)
  rw [← e9] at p9 q9 r9
  clear e9
  exact ⟨k8, by omega, by omega, by omega⟩
set_option maxRecDepth 100000 in
theorem flD2a (τ : Sig) (e : Eqs τ 5 flDG) (hin : InsOk τ 5 flK2) (hj : flJ2 τ) (ht2 : τ.ival 2 = 2) : τ.ival 36 = τ.ival 3 := by
  have a3 := i32_range (hin 3 .i32 (by decide) rfl)
  have a4 := i32_range (hin 4 .i32 (by decide) rfl)
  have e5 : τ.ival 5 = IntKind.i64.wrap (τ.ival 3) := eqI (e.at 0 _ rfl rfl) rfl
  obtain ⟨k5, p5, q5, r5⟩ := sp64 (τ.ival 3)
  rw [← e5] at p5 q5 r5
  clear e5
  have e6 : τ.ival 6 = IntKind.i64.wrap (τ.ival 4) := eqI (e.at 1 _ rfl rfl) rfl
  obtain ⟨k6, p6, q6, r6⟩ := sp64 (τ.ival 4)
  rw [← e6] at p6 q6 r6
  clear e6
  have e7 : τ.ival 7 = IntKind.i64.wrap (τ.ival 5 + τ.ival 6) := eqI (e.at 2 _ rfl rfl) rfl
  obtain ⟨k7, p7, q7, r7⟩ := sp64 (τ.ival 5 + τ.ival 6)
  rw [← e7] at p7 q7 r7
  clear e7
  have e33 : τ.ival 33 = IntKind.i32.wrap (τ.ival 7) := eqI (e.at 28 _ rfl rfl) rfl
  obtain ⟨k33, p33, q33, r33⟩ := sp32 (τ.ival 7)
  rw [← e33] at p33 q33 r33
  clear e33
  have e34 : τ.ival 34 = IntKind.i64.wrap (τ.ival 33) := eqI (e.at 29 _ rfl rfl) rfl
  obtain ⟨k34, p34, q34, r34⟩ := sp64 (τ.ival 33)
  rw [← e34] at p34 q34 r34
  clear e34
  have e35 : τ.ival 35 = IntKind.i64.wrap (τ.ival 34 - τ.ival 6) := eqI (e.at 30 _ rfl rfl) rfl
  obtain ⟨k35, p35, q35, r35⟩ := sp64 (τ.ival 34 - τ.ival 6)
  rw [← e35] at p35 q35 r35
  clear e35
  have e36 : τ.ival 36 = IntKind.i32.wrap (τ.ival 35) := eqI (e.at 31 _ rfl rfl) rfl
  obtain ⟨k36, p36, q36, r36⟩ := sp32 (τ.ival 35)
  rw [← e36] at p36 q36 r36
  clear e36
  omega
set_option maxRecDepth 100000 in
theorem flD2b (τ : Sig) (e : Eqs τ 5 flDG) (hin : InsOk τ 5 flK2) (hj : flJ2 τ) (ht2 : τ.ival 2 = 2) : τ.ival 39 = τ.ival 3 := by
  have a3 := i32_range (hin 3 .i32 (by decide) rfl)
  have a4 := i32_range (hin 4 .i32 (by decide) rfl)
  have e5 : τ.ival 5 = IntKind.i64.wrap (τ.ival 3) := eqI (e.at 0 _ rfl rfl) rfl
  obtain ⟨k5, p5, q5, r5⟩ := sp64 (τ.ival 3)
  rw [← e5] at p5 q5 r5
  clear e5
  have e39 : τ.ival 39 = IntKind.i32.wrap (τ.ival 5) := eqI (e.at 34 _ rfl rfl) rfl
  obtain ⟨k39, p39, q39, r39⟩ := sp32 (τ.ival 5)
  rw [← e39] at p39 q39 r39
  clear e39
  omega
set_option maxRecDepth 100000 in
theorem flD2d (τ : Sig) (e : Eqs τ 5 flDG) (hin : InsOk τ 5 flK2) (hj : flJ2 τ) (ht2 : τ.ival 2 = 2) : τ.ival 42 = τ.ival 41 := by
  have a3 := i32_range (hin 3 .i32 (by decide) rfl)
  have a4 := i32_range (hin 4 .i32 (by decide) rfl)
  have e5 : τ.ival 5 = IntKind.i64.wrap (τ.ival 3) := eqI (e.at 0 _ rfl rfl) rfl
  obtain ⟨k5, p5, q5, r5⟩ := sp64 (τ.ival 3)
  rw [← e5] at p5 q5 r5
  clear e5
  have e25 : τ.ival 25 = IntKind.i64.wrap (0 - τ.ival 5) := eqI (e.at 20 _ rfl rfl) rfl
  obtain ⟨k25, p25, q25, r25⟩ := sp64 (0 - τ.ival 5)
  rw [← e25] at p25 q25 r25
  clear e25
  have e28 : τ.ival 28 = IntKind.i64.wrap (0 - τ.ival 5) := eqI (e.at 23 _ rfl rfl) rfl
  obtain ⟨k28, p28, q28, r28⟩ := sp64 (0 - τ.ival 5)
  rw [← e28] at p28 q28 r28
  clear e28
  have e41 : τ.ival 41 = IntKind.i32.wrap (τ.ival 25) := eqI (e.at 36 _ rfl rfl) rfl
  obtain ⟨k41, p41, q41, r41⟩ := sp32 (τ.ival 25)
  rw [← e41] at p41 q41 r41
  clear e41
  have e42 : τ.ival 42 = IntKind.i32.wrap (τ.ival 28) := eqI (e.at 37 _ rfl rfl) rfl
  obtain ⟨k42, p42, q42, r42⟩ := sp32 (τ.ival 28)
  rw [← e42] at p42 q42 r42
  clear e42
  omega
set_option maxRecDepth 100000 in
theorem flD2s (τ : Sig) (e : Eqs τ 5 flDG) (hin : InsOk τ 5 flK2) (hj : flJ2 τ) (ht2 : τ.ival 2 = 2) : ∃ k, τ.ival 33 = τ.ival 3 + τ.ival 4 + 4294967296 * k := by
  have a3 := i32_range (hin 3 .i32 (by decide) rfl)
  have a4 := i32_range (hin 4 .i32 (by decide) rfl)
  have e5 : τ.ival 5 = IntKind.i64.wrap (τ.ival 3) := eqI (e.at 0 _ rfl rfl) rfl
  obtain ⟨k5, p5, q5, r5⟩ := sp64 (τ.ival 3)
  rw [← e5] at p5 q5 r5
  clear e5
  have e6 : τ.ival 6 = IntKind.i64.wrap (τ.ival 4) := eqI (e.at 1 _ rfl rfl) rfl
  obtain ⟨k6, p6, q6, r6⟩ := sp64 (τ.ival 4)
  rw [← e6] at p6 q6 r6
  clear e6
  have e7 : τ.ival 7 = IntKind.i64.wrap (τ.ival 5 + τ.ival 6) := eqI (e.at 2 _ rfl rfl) rfl
  obtain ⟨k7, p7, q7, r7⟩ := sp64 (τ.ival 5 + τ.ival 6)
  rw [← e7] at p7 q7 r7
  clear e7
  have e33 : τ.ival 33 = IntKind.i32.wrap (τ.ival 7) := eqI (e.at 28 _ rfl rfl) rfl
  obtain ⟨k33, p33, q33, r33⟩ := sp32 (τ.ival 7)
  rw [← e33] at p33 q33 r33
  clear e33
  exact ⟨k33, by omega⟩
set_option maxRecDepth 100000 in
theorem flD_ob {W0 : World} {Z : Exit → Act → World → Prop} {k : Nat} (τ : Sig) (e : Eqs τ 5 flDG) (ht : τ.tab = noTab) (hin : InsOk τ 5 flK2) (hj : flJ2 τ) (hk : (3 - τ.ival 2).toNat = k) : segsW τ (fun x s σ2 => (x = .normal ∧ s = flS3 ∧ InsOk σ2 6 flK3 ∧ (flJ3 σ2 ∧ (3 - σ2.ival 2).toNat = k) ∧ σ2.tab = noTab) ∨ (x ≠ .normal ∧ EndZ noTab 292 W0 Z x s σ2)) flDW [] := by
  have e14 : τ.bval 14 = (τ.ival 13 == τ.ival 3) := eqB (e.at 9 _ rfl rfl) rfl
  have e15 : τ.bval 15 = (!τ.bval 14) := eqB (e.at 10 _ rfl rfl) rfl
  have e18 : τ.bval 18 = (τ.ival 17 != τ.ival 3) := eqB (e.at 13 _ rfl rfl) rfl
  have e24 : τ.bval 24 = (τ.ival 23 != τ.ival 3) := eqB (e.at 19 _ rfl rfl) rfl
  have e31 : τ.bval 31 = (τ.ival 30 == τ.ival 27) := eqB (e.at 26 _ rfl rfl) rfl
  have e32 : τ.bval 32 = (!τ.bval 31) := eqB (e.at 27 _ rfl rfl) rfl
  have e37 : τ.bval 37 = (τ.ival 36 == τ.ival 3) := eqB (e.at 32 _ rfl rfl) rfl
  have e38 : τ.bval 38 = (!τ.bval 37) := eqB (e.at 33 _ rfl rfl) rfl
  have e40 : τ.bval 40 = (τ.ival 39 != τ.ival 3) := eqB (e.at 35 _ rfl rfl) rfl
  have e43 : τ.bval 43 = (τ.ival 42 == τ.ival 41) := eqB (e.at 38 _ rfl rfl) rfl
  have e44 : τ.bval 44 = (!τ.bval 43) := eqB (e.at 39 _ rfl rfl) rfl
  have h1 : ∀ {F}, Holds τ (F ++ [.isn 2 1]) → τ.ival 2 = 1 := fun {F} h => (holds_split F h).1
  have h2 : ∀ {F}, Holds τ (F ++ [.isn 2 2, .non 2 1]) → τ.ival 2 = 2 := fun {F} h => (holds_split F h).1
  refine ⟨⟨fun hF => nqF e14 e15 (flD1a τ e hin hj (h1 (F := [_]) hF)) hF.1, fun hF => neF e18 (flD1b τ e hin hj (h1 (F := [_, _]) hF)) hF.1, fun hF => neF e24 (flDc τ e hin hj rfl) hF.1, fun hF => nqF e31 e32 (flD1d τ e hin hj (h1 (F := [_, _, _, _]) hF)) hF.1, fun hF => ?_⟩,
    ⟨fun hF => nqF e37 e38 (flD2a τ e hin hj (h2 (F := [_]) hF)) hF.1, fun hF => neF e40 (flD2b τ e hin hj (h2 (F := [_, _]) hF)) hF.1, fun hF => neF e24 (flDc τ e hin hj rfl) hF.1, fun hF => nqF e43 e44 (flD2d τ e hin hj (h2 (F := [_, _, _, _]) hF)) hF.1, fun hF => ?_⟩, fun hF => ?_⟩
  · have h := h1 (F := [_, _, _, _]) hF
    exact .inl ⟨rfl, rfl, insOk_asg e hin 12 (by kernel_rfl), ⟨⟨hj, fun _ => flD1s τ e hin hj h, fun h' => absurd (h.symm.trans h') (by decide)⟩, hk⟩, ht⟩
  · have h := h2 (F := [_, _, _, _]) hF
    exact .inl ⟨rfl, rfl, insOk_asg e hin 12 (by kernel_rfl), ⟨⟨hj, fun h' => absurd (h.symm.trans h') (by decide), fun _ => flD2s τ e hin hj h⟩, hk⟩, ht⟩
  · simp only [Holds, Fact.holds] at hF
    unfold flJ2 at hj
    omega

set_option maxRecDepth 100000 in
theorem flE_q (τ : Sig) (e : Eqs τ 6 flEG) (hin : InsOk τ 6 flK3) (h4 : τ.ival 4 ≠ 0) : τ.ival 7 = τ.ival 3 ∧ τ.ival 8 = τ.ival 4 ∧ (∃ k, τ.ival 9 = (τ.ival 3).tdiv (τ.ival 4) + 18446744073709551616 * k) ∧ τ.ival 15 = (τ.ival 3).tmod (τ.ival 4) := by
  have a3 := i32_range (hin 3 .i32 (by decide) rfl)
  have a4 := i32_range (hin 4 .i32 (by decide) rfl)
  have e7 : τ.ival 7 = IntKind.i64.wrap (τ.ival 3) := eqI (e.at 1 _ rfl rfl) rfl
  obtain ⟨k7, p7, q7, r7⟩ := sp64 (τ.ival 3)
  rw [← e7] at p7 q7 r7
  clear e7
  have e8 : τ.ival 8 = IntKind.i64.wrap (τ.ival 4) := eqI (e.at 2 _ rfl rfl) rfl
  obtain ⟨k8, p8, q8, r8⟩ := sp64 (τ.ival 4)
  rw [← e8] at p8 q8 r8
  clear e8
  have h7 : τ.ival 7 = τ.ival 3 := by omega
  have h8 : τ.ival 8 = τ.ival 4 := by omega
  have h8' : τ.ival 8 ≠ 0 := by rw [h8]; exact h4
  have e9 : τ.ival 9 = IntKind.i64.wrap ((τ.ival 7 : Int).tdiv (τ.ival 8)) := eqI (e 3 _ rfl (fun j hj => by cases hj; exact h8')) (by show (if τ.ival 8 = 0 then none else some (AVal.int .i64 (IntKind.i64.wrap ((τ.ival 7).tdiv (τ.ival 8))))) = _; rw [if_neg h8'])
  have e14 : τ.ival 14 = ((τ.ival 7 : Int).tmod (τ.ival 8)) := eqI (e 8 _ rfl (fun j hj => by cases hj; exact h8')) (by show (if τ.ival 8 = 0 then none else some (AVal.int .i64 ((τ.ival 7).tmod (τ.ival 8)))) = _; rw [if_neg h8'])
  have e15 : τ.ival 15 = IntKind.i32.wrap (τ.ival 14) := eqI (e.at 9 _ rfl rfl) rfl
  obtain ⟨k15, p15, q15, r15⟩ := sp32 (τ.ival 14)
  rw [← e15] at p15 q15 r15
  clear e15
  rw [h7, h8] at e9 e14
  refine ⟨h7, h8, ?_, ?_⟩
  · obtain ⟨k, p, _, _⟩ := sp64 ((τ.ival 3).tdiv (τ.ival 4))
    rw [← e9] at p
    exact ⟨k, p⟩
  · rw [← e14]
    by_cases h : 0 ≤ τ.ival 3
    · have := tm_pos (b := τ.ival 4) h; rw [← e14] at this; omega
    · have := tm_neg (b := τ.ival 4) (show τ.ival 3 ≤ 0 by omega); rw [← e14] at this; omega
set_option maxRecDepth 100000 in
theorem flE_1 (τ : Sig) (e : Eqs τ 6 flEG) (hin : InsOk τ 6 flK3) (h4 : τ.ival 4 ≠ 0) : (∃ k, τ.ival 11 = (τ.ival 3).tdiv (τ.ival 4) + 65536 * k) ∧ ∃ k, τ.ival 19 = (τ.ival 3).tdiv (τ.ival 4) + 4294967296 * k := by
  obtain ⟨_, _, ⟨k, hk⟩, _⟩ := flE_q τ e hin h4
  have e10 : τ.ival 10 = IntKind.i16.wrap (τ.ival 9) := eqI (e.at 4 _ rfl rfl) rfl
  obtain ⟨k10, p10, q10, r10⟩ := sp16 (τ.ival 9)
  rw [← e10] at p10 q10 r10
  clear e10
  have e11 : τ.ival 11 = IntKind.i32.wrap (τ.ival 10) := eqI (e.at 5 _ rfl rfl) rfl
  obtain ⟨k11, p11, q11, r11⟩ := sp32 (τ.ival 10)
  rw [← e11] at p11 q11 r11
  clear e11
  have e19 : τ.ival 19 = IntKind.i32.wrap (τ.ival 9) := eqI (e.at 13 _ rfl rfl) rfl
  obtain ⟨k19, p19, q19, r19⟩ := sp32 (τ.ival 9)
  rw [← e19] at p19 q19 r19
  clear e19
  exact ⟨⟨k10 + 281474976710656 * k, by omega⟩, ⟨k19 + 4294967296 * k, by omega⟩⟩
set_option maxRecDepth 100000 in
theorem flE_ob {W0 : World} {Z : Exit → Act → World → Prop} {k : Nat} (τ : Sig) (e : Eqs τ 6 flEG) (ht : τ.tab = noTab) (hin : InsOk τ 6 flK3) (hj : flJ3 τ) (hk : (3 - τ.ival 2).toNat = k) : segsW τ (fun x s σ2 => (x = .normal ∧ s = flS4 ∧ InsOk σ2 9 flK4 ∧ (flJ4 σ2 ∧ (3 - σ2.ival 2).toNat = k) ∧ σ2.tab = noTab) ∨ (x ≠ .normal ∧ EndZ noTab 292 W0 Z x s σ2)) flEW [] := by
  have e6 : τ.bval 6 = (τ.ival 4 == 0) := eqB (e.at 0 _ rfl rfl) rfl
  have e12 : τ.ival 12 = (bif τ.bval 6 then 0 else τ.ival 11) := eqIteI (e.at 6 _ rfl rfl) rfl rfl rfl
  have e13 : τ.bval 13 = (!τ.bval 6) := eqB (e.at 7 _ rfl rfl) rfl
  have e16 : τ.ival 16 = (bif τ.bval 6 then 0 else τ.ival 15) := eqIteI (e.at 10 _ rfl rfl) rfl rfl rfl
  have e17 : τ.bval 17 = (τ.ival 4 != 0) := eqB (e.at 11 _ rfl rfl) rfl
  have e18 : τ.bval 18 = (τ.bval 13 != τ.bval 17) := eqB (e.at 12 _ rfl rfl) rfl
  have e20 : τ.ival 20 = (bif τ.bval 6 then 0 else τ.ival 19) := eqIteI (e.at 14 _ rfl rfl) rfl rfl rfl
  have a3 := i32_range (hin 3 .i32 (by decide) rfl)
  have a4 := i32_range (hin 4 .i32 (by decide) rfl)
  have e8 : τ.ival 8 = IntKind.i64.wrap (τ.ival 4) := eqI (e.at 2 _ rfl rfl) rfl
  obtain ⟨k8, p8, q8, r8⟩ := sp64 (τ.ival 4)
  rw [← e8] at p8 q8 r8
  clear e8
  have h8 : τ.ival 8 = τ.ival 4 := by omega
  have ob : (Ob.node 6 .ok (.pick 8 0 .no .ok)).Sat τ := ⟨fun _ => trivial, fun h => ⟨fun h0 => by
    rw [e6, ← h8, h0] at h; simp at h, fun _ => trivial⟩⟩
  have dd : τ.bval 18 = true → False := by
    rw [e18, e13, e17, e6]
    show ((!(τ.ival 4 == 0)) != (!(τ.ival 4 == 0))) = true → False
    cases (τ.ival 4 == 0) <;> (intro h; cases h)
  have hb : τ.bval 13 = (τ.ival 4 != 0) := by rw [e13, e6]; rfl
  have hb6 : τ.ival 4 ≠ 0 → τ.bval 6 = false := by intro h; rw [e6]; simpa using h
  refine ⟨⟨fun _ => ob, fun _ => ob, fun hF => dd hF.1, fun hF => .inl ⟨rfl, rfl, insOk_asg e hin 12 (by kernel_rfl), ⟨⟨hj, hb, fun h4 => ⟨?_, fun h => ?_, fun h => ?_⟩⟩, hk⟩, ht⟩⟩, ⟨fun _ => ob, fun _ => ob, fun hF => dd hF.1, fun hF => .inl ⟨rfl, rfl, insOk_asg e hin 12 (by kernel_rfl), ⟨⟨hj, hb, fun h4 => ⟨?_, fun h => ?_, fun h => ?_⟩⟩, hk⟩, ht⟩⟩, fun hF => ?_⟩
  · show τ.ival 16 = (τ.ival 3).tmod (τ.ival 4); rw [e16, hb6 h4]; exact (flE_q τ e hin h4).2.2.2
  · show ∃ k, τ.ival 12 = (τ.ival 3).tdiv (τ.ival 4) + 65536 * k; rw [e12, hb6 h4]; exact (flE_1 τ e hin h4).1
  · have h' : τ.ival 2 = 2 := h
    have h1 : τ.ival 2 = 1 := hF.2.1
    omega
  · show τ.ival 16 = (τ.ival 3).tmod (τ.ival 4); rw [e16, hb6 h4]; exact (flE_q τ e hin h4).2.2.2
  · have h' : τ.ival 2 = 1 := h
    have h1 : τ.ival 2 = 2 := hF.2.1
    omega
  · show ∃ k, τ.ival 20 = (τ.ival 3).tdiv (τ.ival 4) + 4294967296 * k; rw [e20, hb6 h4]; exact (flE_1 τ e hin h4).2
  · simp only [Holds, Fact.holds] at hF
    have := hj.1
    unfold flJ2 at this
    omega

set_option maxRecDepth 100000 in
theorem flF1 (τ : Sig) (e : Eqs τ 9 flFG) (hin : InsOk τ 9 flK4) (hj : flJ4 τ) (ht2 : τ.ival 2 = 1) (h7 : τ.bval 7 = true) : τ.ival 18 = τ.ival 3 := by
  have a3 := i32_range (hin 3 .i32 (by decide) rfl)
  have a4 := i32_range (hin 4 .i32 (by decide) rfl)
  have hr : -32768 ≤ τ.ival 3 ∧ τ.ival 3 ≤ 32767 ∧ -32768 ≤ τ.ival 4 ∧ τ.ival 4 ≤ 32767 := by have hj := hj.1.1; unfold flJ2 at hj; omega
  have h4 : τ.ival 4 ≠ 0 := by have := hj.2.1; rw [h7] at this; simpa using this.symm
  obtain ⟨hr, q1, q2⟩ := hj.2.2 h4
  obtain ⟨k, hk⟩ := q1 ht2
  have hd := Int.mul_tdiv_add_tmod (τ.ival 3) (τ.ival 4)
  rw [← hr] at hd
  have a8 := i32_range (hin 8 .i32 (by decide) rfl)
  have a6 := i32_range (hin 6 .i32 (by decide) rfl)
  have hm : τ.ival 6 * τ.ival 4 = τ.ival 4 * (τ.ival 3).tdiv (τ.ival 4) + 65536 * (k * τ.ival 4) := by
    rw [hk, Int.add_mul, Int.mul_comm ((τ.ival 3).tdiv (τ.ival 4)), Int.mul_assoc]
  generalize τ.ival 4 * (τ.ival 3).tdiv (τ.ival 4) = d at *
  generalize k * τ.ival 4 = y at *
  have e9 : τ.ival 9 = IntKind.i64.wrap (τ.ival 6) := eqI (e.at 0 _ rfl rfl) rfl
  obtain ⟨k9, p9, q9, r9⟩ := sp64 (τ.ival 6)
  rw [← e9] at p9 q9 r9
  clear e9
  have e10 : τ.ival 10 = IntKind.i64.wrap (τ.ival 4) := eqI (e.at 1 _ rfl rfl) rfl
  obtain ⟨k10, p10, q10, r10⟩ := sp64 (τ.ival 4)
  rw [← e10] at p10 q10 r10
  clear e10
  have h9 : τ.ival 9 = τ.ival 6 := by omega
  have h10 : τ.ival 10 = τ.ival 4 := by omega
  have e11 : τ.ival 11 = IntKind.i64.wrap (τ.ival 9 * τ.ival 10) := eqI (e.at 2 _ rfl rfl) rfl
  rw [h9, h10, hm] at e11
  obtain ⟨k11, p11, q11, r11⟩ := sp64 (d + 65536 * y)
  rw [← e11] at p11 q11 r11
  clear e11
  have e12 : τ.ival 12 = IntKind.i16.wrap (τ.ival 11) := eqI (e.at 3 _ rfl rfl) rfl
  obtain ⟨k12, p12, q12, r12⟩ := sp16 (τ.ival 11)
  rw [← e12] at p12 q12 r12
  clear e12
  have e13 : τ.ival 13 = IntKind.i32.wrap (τ.ival 12) := eqI (e.at 4 _ rfl rfl) rfl
  obtain ⟨k13, p13, q13, r13⟩ := sp32 (τ.ival 12)
  rw [← e13] at p13 q13 r13
  clear e13
  have e14 : τ.ival 14 = IntKind.i64.wrap (τ.ival 13) := eqI (e.at 5 _ rfl rfl) rfl
  obtain ⟨k14, p14, q14, r14⟩ := sp64 (τ.ival 13)
  rw [← e14] at p14 q14 r14
  clear e14
  have e15 : τ.ival 15 = IntKind.i64.wrap (τ.ival 8) := eqI (e.at 6 _ rfl rfl) rfl
  obtain ⟨k15, p15, q15, r15⟩ := sp64 (τ.ival 8)
  rw [← e15] at p15 q15 r15
  clear e15
  have e16 : τ.ival 16 = IntKind.i64.wrap (τ.ival 14 + τ.ival 15) := eqI (e.at 7 _ rfl rfl) rfl
  obtain ⟨k16, p16, q16, r16⟩ := sp64 (τ.ival 14 + τ.ival 15)
  rw [← e16] at p16 q16 r16
  clear e16
  have e17 : τ.ival 17 = IntKind.i16.wrap (τ.ival 16) := eqI (e.at 8 _ rfl rfl) rfl
  obtain ⟨k17, p17, q17, r17⟩ := sp16 (τ.ival 16)
  rw [← e17] at p17 q17 r17
  clear e17
  have e18 : τ.ival 18 = IntKind.i32.wrap (τ.ival 17) := eqI (e.at 9 _ rfl rfl) rfl
  obtain ⟨k18, p18, q18, r18⟩ := sp32 (τ.ival 17)
  rw [← e18] at p18 q18 r18
  clear e18
  omega
set_option maxRecDepth 100000 in
theorem flF2 (τ : Sig) (e : Eqs τ 9 flFG) (hin : InsOk τ 9 flK4) (hj : flJ4 τ) (ht2 : τ.ival 2 = 2) (h7 : τ.bval 7 = true) : τ.ival 28 = τ.ival 3 := by
  have a3 := i32_range (hin 3 .i32 (by decide) rfl)
  have a4 := i32_range (hin 4 .i32 (by decide) rfl)
  have h4 : τ.ival 4 ≠ 0 := by have := hj.2.1; rw [h7] at this; simpa using this.symm
  obtain ⟨hr, q1, q2⟩ := hj.2.2 h4
  obtain ⟨k, hk⟩ := q2 ht2
  have hd := Int.mul_tdiv_add_tmod (τ.ival 3) (τ.ival 4)
  rw [← hr] at hd
  have a8 := i32_range (hin 8 .i32 (by decide) rfl)
  have a6 := i32_range (hin 6 .i32 (by decide) rfl)
  have hm : τ.ival 6 * τ.ival 4 = τ.ival 4 * (τ.ival 3).tdiv (τ.ival 4) + 4294967296 * (k * τ.ival 4) := by
    rw [hk, Int.add_mul, Int.mul_comm ((τ.ival 3).tdiv (τ.ival 4)), Int.mul_assoc]
  generalize τ.ival 4 * (τ.ival 3).tdiv (τ.ival 4) = d at *
  generalize k * τ.ival 4 = y at *
  have e9 : τ.ival 9 = IntKind.i64.wrap (τ.ival 6) := eqI (e.at 0 _ rfl rfl) rfl
  obtain ⟨k9, p9, q9, r9⟩ := sp64 (τ.ival 6)
  rw [← e9] at p9 q9 r9
  clear e9
  have e10 : τ.ival 10 = IntKind.i64.wrap (τ.ival 4) := eqI (e.at 1 _ rfl rfl) rfl
  obtain ⟨k10, p10, q10, r10⟩ := sp64 (τ.ival 4)
  rw [← e10] at p10 q10 r10
  clear e10
  have h9 : τ.ival 9 = τ.ival 6 := by omega
  have h10 : τ.ival 10 = τ.ival 4 := by omega
  have e11 : τ.ival 11 = IntKind.i64.wrap (τ.ival 9 * τ.ival 10) := eqI (e.at 2 _ rfl rfl) rfl
  rw [h9, h10, hm] at e11
  obtain ⟨k11, p11, q11, r11⟩ := sp64 (d + 4294967296 * y)
  rw [← e11] at p11 q11 r11
  clear e11
  have e25 : τ.ival 25 = IntKind.i32.wrap (τ.ival 11) := eqI (e.at 16 _ rfl rfl) rfl
  obtain ⟨k25, p25, q25, r25⟩ := sp32 (τ.ival 11)
  rw [← e25] at p25 q25 r25
  clear e25
  have e26 : τ.ival 26 = IntKind.i64.wrap (τ.ival 25) := eqI (e.at 17 _ rfl rfl) rfl
  obtain ⟨k26, p26, q26, r26⟩ := sp64 (τ.ival 25)
  rw [← e26] at p26 q26 r26
  clear e26
  have e15 : τ.ival 15 = IntKind.i64.wrap (τ.ival 8) := eqI (e.at 6 _ rfl rfl) rfl
  obtain ⟨k15, p15, q15, r15⟩ := sp64 (τ.ival 8)
  rw [← e15] at p15 q15 r15
  clear e15
  have e27 : τ.ival 27 = IntKind.i64.wrap (τ.ival 26 + τ.ival 15) := eqI (e.at 18 _ rfl rfl) rfl
  obtain ⟨k27, p27, q27, r27⟩ := sp64 (τ.ival 26 + τ.ival 15)
  rw [← e27] at p27 q27 r27
  clear e27
  have e28 : τ.ival 28 = IntKind.i32.wrap (τ.ival 27) := eqI (e.at 19 _ rfl rfl) rfl
  obtain ⟨k28, p28, q28, r28⟩ := sp32 (τ.ival 27)
  rw [← e28] at p28 q28 r28
  clear e28
  omega
set_option maxRecDepth 100000 in
theorem flF_s (τ : Sig) (e : Eqs τ 9 flFG) (hin : InsOk τ 9 flK4) (hj : flJ4 τ) (h7 : τ.bval 7 = true) : τ.bval 21 = true → τ.bval 24 = true → False := by
  have e21 : τ.bval 21 = (τ.ival 8 != 0) := eqB (e.at 12 _ rfl rfl) rfl
  have e22 : τ.bval 22 = decide (τ.ival 8 < 0) := eqB (e.at 13 _ rfl rfl) rfl
  have e23 : τ.bval 23 = decide (τ.ival 3 < 0) := eqB (e.at 14 _ rfl rfl) rfl
  have e24 : τ.bval 24 = (τ.bval 22 != τ.bval 23) := eqB (e.at 15 _ rfl rfl) rfl
  have h4 : τ.ival 4 ≠ 0 := by have := hj.2.1; rw [h7] at this; simpa using this.symm
  obtain ⟨hr, _, _⟩ := hj.2.2 h4
  intro h1 h2
  rw [e21, bne_iff_ne] at h1
  rw [e24, e22, e23, bne_iff_ne] at h2
  by_cases h : 0 ≤ τ.ival 3
  · have := tm_pos (b := τ.ival 4) h
    rw [← hr] at this
    rw [decide_eq_false (by omega), decide_eq_false (by omega)] at h2
    exact h2 rfl
  · have := tm_neg (b := τ.ival 4) (show τ.ival 3 ≤ 0 by omega)
    rw [← hr] at this
    rw [decide_eq_true (by omega), decide_eq_true (by omega)] at h2
    exact h2 rfl
set_option maxRecDepth 100000 in
theorem flF_ob {W0 : World} {Z : Exit → Act → World → Prop} {k : Nat} (τ : Sig) (e : Eqs τ 9 flFG) (ht : τ.tab = noTab) (hin : InsOk τ 9 flK4) (hj : flJ4 τ) (hk : (3 - τ.ival 2).toNat = k) : segsW τ (fun x s σ2 => (x = .normal ∧ s = flS3 ∧ InsOk σ2 6 flK3 ∧ (flJ3 σ2 ∧ (3 - σ2.ival 2).toNat = k) ∧ σ2.tab = noTab) ∨ (x ≠ .normal ∧ EndZ noTab 292 W0 Z x s σ2)) flFW [] := by
  have e19 : τ.bval 19 = (τ.ival 18 == τ.ival 3) := eqB (e.at 10 _ rfl rfl) rfl
  have e20 : τ.bval 20 = (!τ.bval 19) := eqB (e.at 11 _ rfl rfl) rfl
  have e29 : τ.bval 29 = (τ.ival 28 == τ.ival 3) := eqB (e.at 20 _ rfl rfl) rfl
  have e30 : τ.bval 30 = (!τ.bval 29) := eqB (e.at 21 _ rfl rfl) rfl
  have le : (fun x s σ2 => (x = .normal ∧ s = flS3 ∧ InsOk σ2 6 flK3 ∧ (flJ3 σ2 ∧ (3 - σ2.ival 2).toNat = k) ∧ σ2.tab = noTab) ∨ (x ≠ .normal ∧ EndZ noTab 292 W0 Z x s σ2)) .normal flS3 (asgS τ ([(0, .symi .i32 0), (1, .symi .i32 1), (2, .symi .i64 2), (3, .symi .i32 3), (4, .symi .i32 4), (5, .symi .i32 5)] ++ [])) :=
    .inl ⟨rfl, rfl, insOk_asg e hin 12 (by kernel_rfl), ⟨hj.1, hk⟩, ht⟩
  refine ⟨⟨⟨fun hF => nqF e19 e20 (flF1 τ e hin hj hF.2.2.1 hF.2.1) hF.1, ⟨⟨fun hF => flF_s τ e hin hj hF.2.2.2.1 hF.2.1 hF.1, fun _ => le⟩, fun _ => le⟩⟩, fun _ => le⟩,
    ⟨⟨fun hF => nqF e29 e30 (flF2 τ e hin hj hF.2.2.1 hF.2.1) hF.1, ⟨⟨fun hF => flF_s τ e hin hj hF.2.2.2.1 hF.2.1 hF.1, fun _ => le⟩, fun _ => le⟩⟩, fun _ => le⟩, fun hF => ?_⟩
  simp only [Holds, Fact.holds] at hF
  have := hj.1.1
  unfold flJ2 at this
  omega

theorem w32s {n : Int} (h : -100 ≤ n ∧ n ≤ 100) : IntKind.i32.wrap n = n := by
  obtain ⟨k, p, q, r⟩ := sp32 n
  omega
theorem w64s {n : Int} (h : -100 ≤ n ∧ n ≤ 100) : IntKind.i64.wrap n = n := by
  obtain ⟨k, p, q, r⟩ := sp64 n
  omega
set_option maxRecDepth 100000 in
theorem flG_f (τ : Sig) (e : Eqs τ 6 flGG) (hin : InsOk τ 6 flK3) : τ.ival 18 = 1 ∧ τ.ival 23 = τ.ival 20 ∧ τ.ival 29 = τ.ival 26 ∧ τ.ival 34 = τ.ival 17 ∧ (τ.bval 37 = true → τ.bval 38 = false) ∧ τ.ival 42 = τ.ival 17 := by
  have a3 := i32_range (hin 3 .i32 (by decide) rfl)
  have a4 := i32_range (hin 4 .i32 (by decide) rfl)
  have e6 : τ.ival 6 = IntKind.i64.wrap (τ.ival 3) := eqI (e.at 0 _ rfl rfl) rfl
  have e7 : τ.ival 7 = IntKind.i64.wrap (τ.ival 4) := eqI (e.at 1 _ rfl rfl) rfl
  have e8 : τ.bval 8 = decide (τ.ival 6 < τ.ival 7) := eqB (e.at 2 _ rfl rfl) rfl
  have e9 : τ.ival 9 = (bif τ.bval 8 then 1 else 0) := eqIteI (e.at 3 _ rfl rfl) rfl rfl rfl
  have e10 : τ.ival 10 = IntKind.i32.wrap (τ.ival 9) := eqI (e.at 4 _ rfl rfl) rfl
  have e11 : τ.bval 11 = decide (τ.ival 6 > τ.ival 7) := eqB (e.at 5 _ rfl rfl) rfl
  have e12 : τ.ival 12 = (bif τ.bval 11 then 1 else 0) := eqIteI (e.at 6 _ rfl rfl) rfl rfl rfl
  have e13 : τ.ival 13 = IntKind.i32.wrap (τ.ival 12) := eqI (e.at 7 _ rfl rfl) rfl
  have e14 : τ.bval 14 = (τ.ival 6 == τ.ival 7) := eqB (e.at 8 _ rfl rfl) rfl
  have e15 : τ.ival 15 = (bif τ.bval 14 then 1 else 0) := eqIteI (e.at 9 _ rfl rfl) rfl rfl rfl
  have e16 : τ.ival 16 = IntKind.i32.wrap (τ.ival 15) := eqI (e.at 10 _ rfl rfl) rfl
  have e17 : τ.ival 17 = IntKind.i32.wrap (τ.ival 10 + τ.ival 13) := eqI (e.at 11 _ rfl rfl) rfl
  have e18 : τ.ival 18 = IntKind.i32.wrap (τ.ival 17 + τ.ival 16) := eqI (e.at 12 _ rfl rfl) rfl
  have e19 : τ.bval 19 = (τ.ival 18 != 1) := eqB (e.at 13 _ rfl rfl) rfl
  have e20 : τ.ival 20 = IntKind.i32.wrap (τ.ival 10 + τ.ival 16) := eqI (e.at 14 _ rfl rfl) rfl
  have e21 : τ.bval 21 = decide (τ.ival 6 ≤ τ.ival 7) := eqB (e.at 15 _ rfl rfl) rfl
  have e22 : τ.ival 22 = (bif τ.bval 21 then 1 else 0) := eqIteI (e.at 16 _ rfl rfl) rfl rfl rfl
  have e23 : τ.ival 23 = IntKind.i32.wrap (τ.ival 22) := eqI (e.at 17 _ rfl rfl) rfl
  have e24 : τ.bval 24 = (τ.ival 23 == τ.ival 20) := eqB (e.at 18 _ rfl rfl) rfl
  have e25 : τ.bval 25 = (!τ.bval 24) := eqB (e.at 19 _ rfl rfl) rfl
  have e26 : τ.ival 26 = IntKind.i32.wrap (τ.ival 13 + τ.ival 16) := eqI (e.at 20 _ rfl rfl) rfl
  have e27 : τ.bval 27 = decide (τ.ival 6 ≥ τ.ival 7) := eqB (e.at 21 _ rfl rfl) rfl
  have e28 : τ.ival 28 = (bif τ.bval 27 then 1 else 0) := eqIteI (e.at 22 _ rfl rfl) rfl rfl rfl
  have e29 : τ.ival 29 = IntKind.i32.wrap (τ.ival 28) := eqI (e.at 23 _ rfl rfl) rfl
  have e30 : τ.bval 30 = (τ.ival 29 == τ.ival 26) := eqB (e.at 24 _ rfl rfl) rfl
  have e31 : τ.bval 31 = (!τ.bval 30) := eqB (e.at 25 _ rfl rfl) rfl
  have e32 : τ.bval 32 = (τ.ival 6 != τ.ival 7) := eqB (e.at 26 _ rfl rfl) rfl
  have e33 : τ.ival 33 = (bif τ.bval 32 then 1 else 0) := eqIteI (e.at 27 _ rfl rfl) rfl rfl rfl
  have e34 : τ.ival 34 = IntKind.i32.wrap (τ.ival 33) := eqI (e.at 28 _ rfl rfl) rfl
  have e35 : τ.bval 35 = (τ.ival 34 == τ.ival 17) := eqB (e.at 29 _ rfl rfl) rfl
  have e36 : τ.bval 36 = (!τ.bval 35) := eqB (e.at 30 _ rfl rfl) rfl
  have e37 : τ.bval 37 = (τ.ival 10 == 1) := eqB (e.at 31 _ rfl rfl) rfl
  have e38 : τ.bval 38 = decide (τ.ival 3 ≥ τ.ival 4) := eqB (e.at 32 _ rfl rfl) rfl
  have e39 : τ.ival 39 = IntKind.i64.wrap (τ.ival 16) := eqI (e.at 33 _ rfl rfl) rfl
  have e40 : τ.bval 40 = (τ.ival 39 == 0) := eqB (e.at 34 _ rfl rfl) rfl
  have e41 : τ.ival 41 = (bif τ.bval 40 then 1 else 0) := eqIteI (e.at 35 _ rfl rfl) rfl rfl rfl
  have e42 : τ.ival 42 = IntKind.i32.wrap (τ.ival 41) := eqI (e.at 36 _ rfl rfl) rfl
  have e43 : τ.bval 43 = (τ.ival 42 != τ.ival 17) := eqB (e.at 37 _ rfl rfl) rfl
  have h6 : τ.ival 6 = τ.ival 3 := by rw [e6]; obtain ⟨k, p, q, r⟩ := sp64 (τ.ival 3); omega
  have h7 : τ.ival 7 = τ.ival 4 := by rw [e7]; obtain ⟨k, p, q, r⟩ := sp64 (τ.ival 4); omega
  rw [h6, h7] at e8 e11 e14 e21 e27 e32
  have w0 : IntKind.i32.wrap 0 = 0 := by decide
  have w1 : IntKind.i32.wrap 1 = 1 := by decide
  have v0 : IntKind.i64.wrap 0 = 0 := by decide
  have v1 : IntKind.i64.wrap 1 = 1 := by decide
  rcases Int.lt_trichotomy (τ.ival 3) (τ.ival 4) with h | h | h
  · rw [decide_eq_true (show τ.ival 3 < τ.ival 4 by omega)] at e8
    rw [decide_eq_false (show ¬ τ.ival 3 > τ.ival 4 by omega)] at e11
    rw [show (τ.ival 3 == τ.ival 4) = false by simp; omega] at e14
    rw [decide_eq_true (show τ.ival 3 ≤ τ.ival 4 by omega)] at e21
    rw [decide_eq_false (show ¬ τ.ival 3 ≥ τ.ival 4 by omega)] at e27
    rw [show (τ.ival 3 != τ.ival 4) = true by simp; omega] at e32
    simp only [e8, e9, e10, e11, e12, e13, e14, e15, e16, e17, e18, e20, e21, e22, e23, e26, e27, e28, e29, e32, e33, e34, e37, e38, e39, e40, e41, e42, cond_true, cond_false, w0, w1, v0, v1, Int.add_zero, Int.zero_add]
    refine ⟨?_, ?_, ?_, ?_, ?_, ?_⟩ <;> first | decide | (intro _; exact decide_eq_false (by omega))
  · rw [decide_eq_false (show ¬ τ.ival 3 < τ.ival 4 by omega)] at e8
    rw [decide_eq_false (show ¬ τ.ival 3 > τ.ival 4 by omega)] at e11
    rw [show (τ.ival 3 == τ.ival 4) = true by simp; omega] at e14
    rw [decide_eq_true (show τ.ival 3 ≤ τ.ival 4 by omega)] at e21
    rw [decide_eq_true (show τ.ival 3 ≥ τ.ival 4 by omega)] at e27
    rw [show (τ.ival 3 != τ.ival 4) = false by simp; omega] at e32
    simp only [e8, e9, e10, e11, e12, e13, e14, e15, e16, e17, e18, e20, e21, e22, e23, e26, e27, e28, e29, e32, e33, e34, e37, e38, e39, e40, e41, e42, cond_true, cond_false, w0, w1, v0, v1, Int.add_zero, Int.zero_add]
    refine ⟨?_, ?_, ?_, ?_, ?_, ?_⟩ <;> first | decide | (intro hh; exact absurd hh (by decide))
  · rw [decide_eq_false (show ¬ τ.ival 3 < τ.ival 4 by omega)] at e8
    rw [decide_eq_true (show τ.ival 3 > τ.ival 4 by omega)] at e11
    rw [show (τ.ival 3 == τ.ival 4) = false by simp; omega] at e14
    rw [decide_eq_false (show ¬ τ.ival 3 ≤ τ.ival 4 by omega)] at e21
    rw [decide_eq_true (show τ.ival 3 ≥ τ.ival 4 by omega)] at e27
    rw [show (τ.ival 3 != τ.ival 4) = true by simp; omega] at e32
    simp only [e8, e9, e10, e11, e12, e13, e14, e15, e16, e17, e18, e20, e21, e22, e23, e26, e27, e28, e29, e32, e33, e34, e37, e38, e39, e40, e41, e42, cond_true, cond_false, w0, w1, v0, v1, Int.add_zero, Int.zero_add]
    refine ⟨?_, ?_, ?_, ?_, ?_, ?_⟩ <;> first | decide | (intro hh; exact absurd hh (by decide))
set_option maxRecDepth 100000 in
theorem flG_ob {W0 : World} {Z : Exit → Act → World → Prop} {k : Nat} (τ : Sig) (e : Eqs τ 6 flGG) (ht : τ.tab = noTab) (hin : InsOk τ 6 flK3) (hj : flJ3 τ) (hk : (3 - τ.ival 2).toNat = k) : segsW τ (fun x s σ2 => (x = .normal ∧ s = flS3 ∧ InsOk σ2 6 flK3 ∧ (flJ3 σ2 ∧ (3 - σ2.ival 2).toNat = k) ∧ σ2.tab = noTab) ∨ (x ≠ .normal ∧ EndZ noTab 292 W0 Z x s σ2)) flGW [] := by
  have e19 : τ.bval 19 = (τ.ival 18 != 1) := eqB (e.at 13 _ rfl rfl) rfl
  have e24 : τ.bval 24 = (τ.ival 23 == τ.ival 20) := eqB (e.at 18 _ rfl rfl) rfl
  have e25 : τ.bval 25 = (!τ.bval 24) := eqB (e.at 19 _ rfl rfl) rfl
  have e30 : τ.bval 30 = (τ.ival 29 == τ.ival 26) := eqB (e.at 24 _ rfl rfl) rfl
  have e31 : τ.bval 31 = (!τ.bval 30) := eqB (e.at 25 _ rfl rfl) rfl
  have e35 : τ.bval 35 = (τ.ival 34 == τ.ival 17) := eqB (e.at 29 _ rfl rfl) rfl
  have e36 : τ.bval 36 = (!τ.bval 35) := eqB (e.at 30 _ rfl rfl) rfl
  have e43 : τ.bval 43 = (τ.ival 42 != τ.ival 17) := eqB (e.at 37 _ rfl rfl) rfl
  obtain ⟨g1, g2, g3, g4, g5, g6⟩ := flG_f τ e hin
  have le : (fun x s σ2 => (x = .normal ∧ s = flS3 ∧ InsOk σ2 6 flK3 ∧ (flJ3 σ2 ∧ (3 - σ2.ival 2).toNat = k) ∧ σ2.tab = noTab) ∨ (x ≠ .normal ∧ EndZ noTab 292 W0 Z x s σ2)) .normal flS3 (asgS τ ([(0, .symi .i32 0), (1, .symi .i32 1), (2, .symi .i64 2), (3, .symi .i32 3), (4, .symi .i32 4), (5, .symi .i32 5)] ++ [])) :=
    .inl ⟨rfl, rfl, insOk_asg e hin 12 (by kernel_rfl), ⟨hj, hk⟩, ht⟩
  have d38 : τ.bval 38 = true → τ.bval 37 = true → False := fun h1 h2 => by rw [g5 h2] at h1; cases h1
  refine ⟨⟨fun hF => neF e19 g1 hF.1, fun hF => nqF e24 e25 g2 hF.1, fun hF => nqF e30 e31 g3 hF.1, fun hF => nqF e35 e36 g4 hF.1, ⟨fun hF => d38 hF.1 hF.2.1, fun hF => neF e43 g6 hF.1, fun _ => le⟩, fun hF => neF e43 g6 hF.1, fun _ => le⟩,
    ⟨fun hF => neF e19 g1 hF.1, fun hF => nqF e24 e25 g2 hF.1, fun hF => nqF e30 e31 g3 hF.1, fun hF => nqF e35 e36 g4 hF.1, ⟨fun hF => d38 hF.1 hF.2.1, fun hF => neF e43 g6 hF.1, fun _ => le⟩, fun hF => neF e43 g6 hF.1, fun _ => le⟩, fun hF => ?_⟩
  simp only [Holds, Fact.holds] at hF
  have := hj.1
  unfold flJ2 at this
  omega

theorem id64 {n m k : Int} (p : m = n + 18446744073709551616 * k) (q : -4611686018427387904 ≤ n) (r : n ≤ 4611686018427387904) (q' : -9223372036854775808 ≤ m) (r' : m ≤ 9223372036854775807) : m = n := by omega
theorem id32 {n m k : Int} (p : m = n + 4294967296 * k) (q : -32768 ≤ n) (r : n ≤ 32767) (q' : -2147483648 ≤ m) (r' : m ≤ 2147483647) : m = n := by omega
theorem eq64 {u v K : Int} (h : u - v = 18446744073709551616 * K) (a : -9223372036854775808 ≤ u) (b : u ≤ 9223372036854775807) (c : -9223372036854775808 ≤ v) (d : v ≤ 9223372036854775807) : u = v := by omega
theorem eq32 {u v K : Int} (h : u - v = 4294967296 * K) (a : -2147483648 ≤ u) (b : u ≤ 2147483647) (c : -2147483648 ≤ v) (d : v ≤ 2147483647) : u = v := by omega
theorem eq16 {u v K : Int} (h : u - v = 65536 * K) (a : -32768 ≤ u) (b : u ≤ 32767) (c : -32768 ≤ v) (d : v ≤ 32767) : u = v := by omega
theorem linA {a b s x y n8 n9 n10 n11 n21 n22 k8 k9 k10 k11 k22 kb ks : Int} (p8 : n8 = x + 18446744073709551616 * k8) (p9 : n9 = n8 + 4294967296 * k9) (p10 : n10 = y + 18446744073709551616 * k10) (p11 : n11 = n10 + 4294967296 * k11) (p21 : n21 = n9 + n11) (p22 : n22 = n21 + 65536 * k22)
    (hxy : x + y = a + b + 18446744073709551616 * kb) (hs : s = a + b + 65536 * ks) : n22 - s = 65536 * (k22 + 65536 * (k9 + k11) + 281474976710656 * (k8 + k10 + kb) - ks) := by omega
theorem linA2 {a b s x y n8 n9 n10 n11 n21 n22 k8 k9 k10 k11 k22 kb ks : Int} (p8 : n8 = x + 18446744073709551616 * k8) (p9 : n9 = n8 + 4294967296 * k9) (p10 : n10 = y + 18446744073709551616 * k10) (p11 : n11 = n10 + 4294967296 * k11) (p21 : n21 = n9 + n11) (p22 : n22 = n21 + 4294967296 * k22)
    (hxy : x + y = a + b + 18446744073709551616 * kb) (hs : s = a + b + 4294967296 * ks) : n22 - s = 4294967296 * (k22 + (k9 + k11) + 4294967296 * (k8 + k10 + kb) - ks) := by omega
theorem linB {x y z n8 n9 n10 n11 n12 n26 n27 k8 k9 k10 k11 k12 k27 : Int} (p8 : n8 = x + 18446744073709551616 * k8) (p9 : n9 = n8 + 4294967296 * k9) (p10 : n10 = y + 18446744073709551616 * k10) (p11 : n11 = n10 + 4294967296 * k11) (p12 : n12 = z + 18446744073709551616 * k12) (p26 : n26 = n11 - n9) (p27 : n27 = n26 + 65536 * k27)
    (hyz : y = x + z) : n27 - n12 = 65536 * (k27 + 65536 * (k11 - k9) + 281474976710656 * (k10 - k8 - k12)) := by omega
theorem linB2 {x y z n8 n9 n10 n11 n12 n13 n26 n27 k8 k9 k10 k11 k12 k13 k27 : Int} (p8 : n8 = x + 18446744073709551616 * k8) (p9 : n9 = n8 + 4294967296 * k9) (p10 : n10 = y + 18446744073709551616 * k10) (p11 : n11 = n10 + 4294967296 * k11) (p12 : n12 = z + 18446744073709551616 * k12) (p13 : n13 = n12 + 4294967296 * k13) (p26 : n26 = n11 - n9) (p27 : n27 = n26 + 4294967296 * k27)
    (hyz : y = x + z) : n27 - n13 = 4294967296 * (k27 + (k11 - k9) + 4294967296 * (k10 - k8 - k12) - k13) := by omega
theorem sum64 {a b c d k1 k2 : Int} (p1 : c = a + 18446744073709551616 * k1) (a1 : -2147483648 ≤ a) (a2 : a ≤ 2147483647) (b1 : -2147483648 ≤ b) (b2 : b ≤ 2147483647) (c1 : -9223372036854775808 ≤ c) (c2 : c ≤ 9223372036854775807) (p2 : d = b + 18446744073709551616 * k2) (d1 : -9223372036854775808 ≤ d) (d2 : d ≤ 9223372036854775807) : c = a ∧ d = b := by omega

set_option maxRecDepth 100000 in
theorem flH1a (τ : Sig) (e : Eqs τ 6 flHG) (hin : InsOk τ 6 flK3) (hj : flJ3 τ) (ht2 : τ.ival 2 = 1) : τ.ival 23 = τ.ival 5 := by
  have a3 := i32_range (hin 3 .i32 (by decide) rfl)
  have a4 := i32_range (hin 4 .i32 (by decide) rfl)
  have hr : -32768 ≤ τ.ival 3 ∧ τ.ival 3 ≤ 32767 ∧ -32768 ≤ τ.ival 4 ∧ τ.ival 4 ≤ 32767 := by have hj := hj.1; unfold flJ2 at hj; omega
  obtain ⟨ks, hs, hs1, hs2⟩ := hj.2.1 ht2
  have e6 : τ.ival 6 = IntKind.i64.wrap (τ.ival 3) := eqI (e.at 0 _ rfl rfl) rfl
  obtain ⟨k6, p6, q6, r6⟩ := sp64 (τ.ival 3)
  rw [← e6] at p6 q6 r6
  clear e6
  have e7 : τ.ival 7 = IntKind.i64.wrap (τ.ival 4) := eqI (e.at 1 _ rfl rfl) rfl
  obtain ⟨k7, p7, q7, r7⟩ := sp64 (τ.ival 4)
  rw [← e7] at p7 q7 r7
  clear e7
  have h6 : τ.ival 6 = τ.ival 3 := by omega
  have h7 : τ.ival 7 = τ.ival 4 := by omega
  obtain ⟨x, y, z, kb, _, hx, hy, hz, hxy, hyz⟩ := bits3 (τ.ival 6) (τ.ival 7)
  have e8 : τ.ival 8 = IntKind.i64.wrap (BitVec.ofInt IntKind.i64.bits (τ.ival 6) &&& BitVec.ofInt IntKind.i64.bits (τ.ival 7)).toNat := eqI (e.at 2 _ rfl rfl) rfl
  obtain ⟨k8, p8, q8, r8⟩ := sp64 ((BitVec.ofInt IntKind.i64.bits (τ.ival 6) &&& BitVec.ofInt IntKind.i64.bits (τ.ival 7)).toNat : Int)
  rw [← e8] at p8 q8 r8
  clear e8
  have e10 : τ.ival 10 = IntKind.i64.wrap (BitVec.ofInt IntKind.i64.bits (τ.ival 6) ||| BitVec.ofInt IntKind.i64.bits (τ.ival 7)).toNat := eqI (e.at 4 _ rfl rfl) rfl
  obtain ⟨k10, p10, q10, r10⟩ := sp64 ((BitVec.ofInt IntKind.i64.bits (τ.ival 6) ||| BitVec.ofInt IntKind.i64.bits (τ.ival 7)).toNat : Int)
  rw [← e10] at p10 q10 r10
  clear e10
  replace p8 : τ.ival 8 = x + 18446744073709551616 * k8 := by rw [p8]; exact congrArg (· + 18446744073709551616 * k8) hx
  replace p10 : τ.ival 10 = y + 18446744073709551616 * k10 := by rw [p10]; exact congrArg (· + 18446744073709551616 * k10) hy
  have e9 : τ.ival 9 = IntKind.i32.wrap (τ.ival 8) := eqI (e.at 3 _ rfl rfl) rfl
  obtain ⟨k9, p9, q9, r9⟩ := sp32 (τ.ival 8)
  rw [← e9] at p9 q9 r9
  clear e9
  have e11 : τ.ival 11 = IntKind.i32.wrap (τ.ival 10) := eqI (e.at 5 _ rfl rfl) rfl
  obtain ⟨k11, p11, q11, r11⟩ := sp32 (τ.ival 10)
  rw [← e11] at p11 q11 r11
  clear e11
  have e19 : τ.ival 19 = IntKind.i64.wrap (τ.ival 9) := eqI (e.at 13 _ rfl rfl) rfl
  obtain ⟨k19, p19, q19, r19⟩ := sp64 (τ.ival 9)
  rw [← e19] at p19 q19 r19
  clear e19
  have e20 : τ.ival 20 = IntKind.i64.wrap (τ.ival 11) := eqI (e.at 14 _ rfl rfl) rfl
  obtain ⟨k20, p20, q20, r20⟩ := sp64 (τ.ival 11)
  rw [← e20] at p20 q20 r20
  clear e20
  have e21 : τ.ival 21 = IntKind.i64.wrap (τ.ival 19 + τ.ival 20) := eqI (e.at 15 _ rfl rfl) rfl
  obtain ⟨k21, p21, q21, r21⟩ := sp64 (τ.ival 19 + τ.ival 20)
  rw [← e21] at p21 q21 r21
  clear e21
  have e22 : τ.ival 22 = IntKind.i16.wrap (τ.ival 21) := eqI (e.at 16 _ rfl rfl) rfl
  obtain ⟨k22, p22, q22, r22⟩ := sp16 (τ.ival 21)
  rw [← e22] at p22 q22 r22
  clear e22
  have e23 : τ.ival 23 = IntKind.i32.wrap (τ.ival 22) := eqI (e.at 17 _ rfl rfl) rfl
  obtain ⟨k23, p23, q23, r23⟩ := sp32 (τ.ival 22)
  rw [← e23] at p23 q23 r23
  clear e23
  rw [h6, h7] at hxy
  have h19 : τ.ival 19 = τ.ival 9 := (sum64 p19 q9 r9 q11 r11 q19 r19 p20 q20 r20).1
  have h20 : τ.ival 20 = τ.ival 11 := (sum64 p19 q9 r9 q11 r11 q19 r19 p20 q20 r20).2
  rw [h19, h20] at p21
  have h21 : τ.ival 21 = τ.ival 9 + τ.ival 11 := by
    clear hx hy hz hxy hyz hs p8 p9 p10 p11 p19 p20
    exact id64 p21 (by omega) (by omega) q21 r21
  rw [id32 p23 q22 r22 q23 r23]
  exact eq16 (linA p8 p9 p10 p11 h21 p22 hxy hs) q22 r22 hs1 hs2
set_option maxRecDepth 100000 in
theorem flH1b (τ : Sig) (e : Eqs τ 6 flHG) (hin : InsOk τ 6 flK3) (hj : flJ3 τ) (ht2 : τ.ival 2 = 1) : τ.ival 28 = τ.ival 13 := by
  have a3 := i32_range (hin 3 .i32 (by decide) rfl)
  have a4 := i32_range (hin 4 .i32 (by decide) rfl)
  have hr : -32768 ≤ τ.ival 3 ∧ τ.ival 3 ≤ 32767 ∧ -32768 ≤ τ.ival 4 ∧ τ.ival 4 ≤ 32767 := by have hj := hj.1; unfold flJ2 at hj; omega
  obtain ⟨ks, hs, hs1, hs2⟩ := hj.2.1 ht2
  have e6 : τ.ival 6 = IntKind.i64.wrap (τ.ival 3) := eqI (e.at 0 _ rfl rfl) rfl
  obtain ⟨k6, p6, q6, r6⟩ := sp64 (τ.ival 3)
  rw [← e6] at p6 q6 r6
  clear e6
  have e7 : τ.ival 7 = IntKind.i64.wrap (τ.ival 4) := eqI (e.at 1 _ rfl rfl) rfl
  obtain ⟨k7, p7, q7, r7⟩ := sp64 (τ.ival 4)
  rw [← e7] at p7 q7 r7
  clear e7
  have h6 : τ.ival 6 = τ.ival 3 := by omega
  have h7 : τ.ival 7 = τ.ival 4 := by omega
  obtain ⟨kx, x1, x2⟩ := xor16 (τ.ival 6) (τ.ival 7) (by omega) (by omega)
  obtain ⟨x, y, z, kb, _, hx, hy, hz, hxy, hyz⟩ := bits3 (τ.ival 6) (τ.ival 7)
  have e8 : τ.ival 8 = IntKind.i64.wrap (BitVec.ofInt IntKind.i64.bits (τ.ival 6) &&& BitVec.ofInt IntKind.i64.bits (τ.ival 7)).toNat := eqI (e.at 2 _ rfl rfl) rfl
  obtain ⟨k8, p8, q8, r8⟩ := sp64 ((BitVec.ofInt IntKind.i64.bits (τ.ival 6) &&& BitVec.ofInt IntKind.i64.bits (τ.ival 7)).toNat : Int)
  rw [← e8] at p8 q8 r8
  clear e8
  have e10 : τ.ival 10 = IntKind.i64.wrap (BitVec.ofInt IntKind.i64.bits (τ.ival 6) ||| BitVec.ofInt IntKind.i64.bits (τ.ival 7)).toNat := eqI (e.at 4 _ rfl rfl) rfl
  obtain ⟨k10, p10, q10, r10⟩ := sp64 ((BitVec.ofInt IntKind.i64.bits (τ.ival 6) ||| BitVec.ofInt IntKind.i64.bits (τ.ival 7)).toNat : Int)
  rw [← e10] at p10 q10 r10
  clear e10
  have e12 : τ.ival 12 = IntKind.i64.wrap (BitVec.ofInt IntKind.i64.bits (τ.ival 6) ^^^ BitVec.ofInt IntKind.i64.bits (τ.ival 7)).toNat := eqI (e.at 6 _ rfl rfl) rfl
  obtain ⟨k12, p12, q12, r12⟩ := sp64 ((BitVec.ofInt IntKind.i64.bits (τ.ival 6) ^^^ BitVec.ofInt IntKind.i64.bits (τ.ival 7)).toNat : Int)
  rw [← e12] at p12 q12 r12
  clear e12
  replace p8 : τ.ival 8 = x + 18446744073709551616 * k8 := by rw [p8]; exact congrArg (· + 18446744073709551616 * k8) hx
  replace p10 : τ.ival 10 = y + 18446744073709551616 * k10 := by rw [p10]; exact congrArg (· + 18446744073709551616 * k10) hy
  replace p12 : τ.ival 12 = z + 18446744073709551616 * k12 := by rw [p12]; exact congrArg (· + 18446744073709551616 * k12) hz
  have e9 : τ.ival 9 = IntKind.i32.wrap (τ.ival 8) := eqI (e.at 3 _ rfl rfl) rfl
  obtain ⟨k9, p9, q9, r9⟩ := sp32 (τ.ival 8)
  rw [← e9] at p9 q9 r9
  clear e9
  have e11 : τ.ival 11 = IntKind.i32.wrap (τ.ival 10) := eqI (e.at 5 _ rfl rfl) rfl
  obtain ⟨k11, p11, q11, r11⟩ := sp32 (τ.ival 10)
  rw [← e11] at p11 q11 r11
  clear e11
  have e13 : τ.ival 13 = IntKind.i32.wrap (τ.ival 12) := eqI (e.at 7 _ rfl rfl) rfl
  obtain ⟨k13, p13, q13, r13⟩ := sp32 (τ.ival 12)
  rw [← e13] at p13 q13 r13
  clear e13
  have e19 : τ.ival 19 = IntKind.i64.wrap (τ.ival 9) := eqI (e.at 13 _ rfl rfl) rfl
  obtain ⟨k19, p19, q19, r19⟩ := sp64 (τ.ival 9)
  rw [← e19] at p19 q19 r19
  clear e19
  have e20 : τ.ival 20 = IntKind.i64.wrap (τ.ival 11) := eqI (e.at 14 _ rfl rfl) rfl
  obtain ⟨k20, p20, q20, r20⟩ := sp64 (τ.ival 11)
  rw [← e20] at p20 q20 r20
  clear e20
  have e26 : τ.ival 26 = IntKind.i64.wrap (τ.ival 20 - τ.ival 19) := eqI (e.at 20 _ rfl rfl) rfl
  obtain ⟨k26, p26, q26, r26⟩ := sp64 (τ.ival 20 - τ.ival 19)
  rw [← e26] at p26 q26 r26
  clear e26
  have e27 : τ.ival 27 = IntKind.i16.wrap (τ.ival 26) := eqI (e.at 21 _ rfl rfl) rfl
  obtain ⟨k27, p27, q27, r27⟩ := sp16 (τ.ival 26)
  rw [← e27] at p27 q27 r27
  clear e27
  have e28 : τ.ival 28 = IntKind.i32.wrap (τ.ival 27) := eqI (e.at 22 _ rfl rfl) rfl
  obtain ⟨k28, p28, q28, r28⟩ := sp32 (τ.ival 27)
  rw [← e28] at p28 q28 r28
  clear e28
  have h19 : τ.ival 19 = τ.ival 9 := (sum64 p19 q9 r9 q11 r11 q19 r19 p20 q20 r20).1
  have h20 : τ.ival 20 = τ.ival 11 := (sum64 p19 q9 r9 q11 r11 q19 r19 p20 q20 r20).2
  rw [h19, h20] at p26
  have h26 : τ.ival 26 = τ.ival 11 - τ.ival 9 := by
    clear hx hy hz hxy hyz hs p8 p9 p10 p11 p19 p20
    exact id64 p26 (by omega) (by omega) q26 r26
  rw [hz] at x1 x2
  have c12 : τ.ival 12 = z + 18446744073709551616 * kx := eq64 (K := k12 - kx) (by clear hx hy hz hxy; omega) q12 r12 (by clear hx hy hz hxy; omega) (by clear hx hy hz hxy; omega)
  rw [← c12] at x1 x2
  rw [id32 p28 q27 r27 q28 r28, id32 p13 x1 x2 q13 r13]
  exact eq16 (linB p8 p9 p10 p11 p12 h26 p27 hyz) q27 r27 x1 x2
set_option maxRecDepth 100000 in
theorem flH1c (τ : Sig) (e : Eqs τ 6 flHG) (hin : InsOk τ 6 flK3) (hj : flJ3 τ) (ht2 : τ.ival 2 = 1) : τ.ival 33 = τ.ival 16 := by
  have a3 := i32_range (hin 3 .i32 (by decide) rfl)
  have a4 := i32_range (hin 4 .i32 (by decide) rfl)
  have hr : -32768 ≤ τ.ival 3 ∧ τ.ival 3 ≤ 32767 ∧ -32768 ≤ τ.ival 4 ∧ τ.ival 4 ≤ 32767 := by have hj := hj.1; unfold flJ2 at hj; omega
  obtain ⟨ks, hs, hs1, hs2⟩ := hj.2.1 ht2
  have e6 : τ.ival 6 = IntKind.i64.wrap (τ.ival 3) := eqI (e.at 0 _ rfl rfl) rfl
  obtain ⟨k6, p6, q6, r6⟩ := sp64 (τ.ival 3)
  rw [← e6] at p6 q6 r6
  clear e6
  have e7 : τ.ival 7 = IntKind.i64.wrap (τ.ival 4) := eqI (e.at 1 _ rfl rfl) rfl
  obtain ⟨k7, p7, q7, r7⟩ := sp64 (τ.ival 4)
  rw [← e7] at p7 q7 r7
  clear e7
  have h6 : τ.ival 6 = τ.ival 3 := by omega
  have h7 : τ.ival 7 = τ.ival 4 := by omega
  have e14 : τ.ival 14 = IntKind.i64.wrap (τ.ival 6 * 2) := eqI (e.at 8 _ rfl rfl) rfl
  obtain ⟨k14, p14, q14, r14⟩ := sp64 (τ.ival 6 * 2)
  rw [← e14] at p14 q14 r14
  have e31 : τ.ival 31 = IntKind.i64.wrap (τ.ival 6 + τ.ival 6) := eqI (e.at 25 _ rfl rfl) rfl
  obtain ⟨k31, p31, q31, r31⟩ := sp64 (τ.ival 6 + τ.ival 6)
  rw [← e31] at p31 q31 r31
  clear e31
  have e32 : τ.ival 32 = IntKind.i16.wrap (τ.ival 31) := eqI (e.at 26 _ rfl rfl) rfl
  obtain ⟨k32, p32, q32, r32⟩ := sp16 (τ.ival 31)
  rw [← e32] at p32 q32 r32
  clear e32
  have e33 : τ.ival 33 = IntKind.i32.wrap (τ.ival 32) := eqI (e.at 27 _ rfl rfl) rfl
  obtain ⟨k33, p33, q33, r33⟩ := sp32 (τ.ival 32)
  rw [← e33] at p33 q33 r33
  clear e33
  have e15 : τ.ival 15 = IntKind.i16.wrap (τ.ival 14) := eqI (e.at 9 _ rfl rfl) rfl
  obtain ⟨k15, p15, q15, r15⟩ := sp16 (τ.ival 14)
  rw [← e15] at p15 q15 r15
  clear e15
  have e16 : τ.ival 16 = IntKind.i32.wrap (τ.ival 15) := eqI (e.at 10 _ rfl rfl) rfl
  obtain ⟨k16, p16, q16, r16⟩ := sp32 (τ.ival 15)
  rw [← e16] at p16 q16 r16
  clear e16
  omega
set_option maxRecDepth 100000 in
theorem flH2a (τ : Sig) (e : Eqs τ 6 flHG) (hin : InsOk τ 6 flK3) (hj : flJ3 τ) (ht2 : τ.ival 2 = 2) : τ.ival 42 = τ.ival 5 := by
  have a3 := i32_range (hin 3 .i32 (by decide) rfl)
  have a4 := i32_range (hin 4 .i32 (by decide) rfl)
  obtain ⟨ks, hs⟩ := hj.2.2 ht2
  have e6 : τ.ival 6 = IntKind.i64.wrap (τ.ival 3) := eqI (e.at 0 _ rfl rfl) rfl
  obtain ⟨k6, p6, q6, r6⟩ := sp64 (τ.ival 3)
  rw [← e6] at p6 q6 r6
  clear e6
  have e7 : τ.ival 7 = IntKind.i64.wrap (τ.ival 4) := eqI (e.at 1 _ rfl rfl) rfl
  obtain ⟨k7, p7, q7, r7⟩ := sp64 (τ.ival 4)
  rw [← e7] at p7 q7 r7
  clear e7
  have h6 : τ.ival 6 = τ.ival 3 := by omega
  have h7 : τ.ival 7 = τ.ival 4 := by omega
  obtain ⟨x, y, z, kb, _, hx, hy, hz, hxy, hyz⟩ := bits3 (τ.ival 6) (τ.ival 7)
  have e8 : τ.ival 8 = IntKind.i64.wrap (BitVec.ofInt IntKind.i64.bits (τ.ival 6) &&& BitVec.ofInt IntKind.i64.bits (τ.ival 7)).toNat := eqI (e.at 2 _ rfl rfl) rfl
  obtain ⟨k8, p8, q8, r8⟩ := sp64 ((BitVec.ofInt IntKind.i64.bits (τ.ival 6) &&& BitVec.ofInt IntKind.i64.bits (τ.ival 7)).toNat : Int)
  rw [← e8] at p8 q8 r8
  clear e8
  have e10 : τ.ival 10 = IntKind.i64.wrap (BitVec.ofInt IntKind.i64.bits (τ.ival 6) ||| BitVec.ofInt IntKind.i64.bits (τ.ival 7)).toNat := eqI (e.at 4 _ rfl rfl) rfl
  obtain ⟨k10, p10, q10, r10⟩ := sp64 ((BitVec.ofInt IntKind.i64.bits (τ.ival 6) ||| BitVec.ofInt IntKind.i64.bits (τ.ival 7)).toNat : Int)
  rw [← e10] at p10 q10 r10
  clear e10
  replace p8 : τ.ival 8 = x + 18446744073709551616 * k8 := by rw [p8]; exact congrArg (· + 18446744073709551616 * k8) hx
  replace p10 : τ.ival 10 = y + 18446744073709551616 * k10 := by rw [p10]; exact congrArg (· + 18446744073709551616 * k10) hy
  have e9 : τ.ival 9 = IntKind.i32.wrap (τ.ival 8) := eqI (e.at 3 _ rfl rfl) rfl
  obtain ⟨k9, p9, q9, r9⟩ := sp32 (τ.ival 8)
  rw [← e9] at p9 q9 r9
  clear e9
  have e11 : τ.ival 11 = IntKind.i32.wrap (τ.ival 10) := eqI (e.at 5 _ rfl rfl) rfl
  obtain ⟨k11, p11, q11, r11⟩ := sp32 (τ.ival 10)
  rw [← e11] at p11 q11 r11
  clear e11
  have e19 : τ.ival 19 = IntKind.i64.wrap (τ.ival 9) := eqI (e.at 13 _ rfl rfl) rfl
  obtain ⟨k19, p19, q19, r19⟩ := sp64 (τ.ival 9)
  rw [← e19] at p19 q19 r19
  clear e19
  have e20 : τ.ival 20 = IntKind.i64.wrap (τ.ival 11) := eqI (e.at 14 _ rfl rfl) rfl
  obtain ⟨k20, p20, q20, r20⟩ := sp64 (τ.ival 11)
  rw [← e20] at p20 q20 r20
  clear e20
  have e21 : τ.ival 21 = IntKind.i64.wrap (τ.ival 19 + τ.ival 20) := eqI (e.at 15 _ rfl rfl) rfl
  obtain ⟨k21, p21, q21, r21⟩ := sp64 (τ.ival 19 + τ.ival 20)
  rw [← e21] at p21 q21 r21
  clear e21
  have e42 : τ.ival 42 = IntKind.i32.wrap (τ.ival 21) := eqI (e.at 36 _ rfl rfl) rfl
  obtain ⟨k42, p42, q42, r42⟩ := sp32 (τ.ival 21)
  rw [← e42] at p42 q42 r42
  clear e42
  rw [h6, h7] at hxy
  have h19 : τ.ival 19 = τ.ival 9 := (sum64 p19 q9 r9 q11 r11 q19 r19 p20 q20 r20).1
  have h20 : τ.ival 20 = τ.ival 11 := (sum64 p19 q9 r9 q11 r11 q19 r19 p20 q20 r20).2
  rw [h19, h20] at p21
  have h21 : τ.ival 21 = τ.ival 9 + τ.ival 11 := by
    clear hx hy hz hxy hyz hs p8 p9 p10 p11 p19 p20
    exact id64 p21 (by omega) (by omega) q21 r21
  have a5 := i32_range (hin 5 .i32 (by decide) rfl)
  exact eq32 (linA2 p8 p9 p10 p11 h21 p42 hxy hs) q42 r42 a5.1 a5.2
set_option maxRecDepth 100000 in
theorem flH2b (τ : Sig) (e : Eqs τ 6 flHG) (hin : InsOk τ 6 flK3) (hj : flJ3 τ) (ht2 : τ.ival 2 = 2) : τ.ival 45 = τ.ival 13 := by
  have a3 := i32_range (hin 3 .i32 (by decide) rfl)
  have a4 := i32_range (hin 4 .i32 (by decide) rfl)
  obtain ⟨ks, hs⟩ := hj.2.2 ht2
  have e6 : τ.ival 6 = IntKind.i64.wrap (τ.ival 3) := eqI (e.at 0 _ rfl rfl) rfl
  obtain ⟨k6, p6, q6, r6⟩ := sp64 (τ.ival 3)
  rw [← e6] at p6 q6 r6
  clear e6
  have e7 : τ.ival 7 = IntKind.i64.wrap (τ.ival 4) := eqI (e.at 1 _ rfl rfl) rfl
  obtain ⟨k7, p7, q7, r7⟩ := sp64 (τ.ival 4)
  rw [← e7] at p7 q7 r7
  clear e7
  have h6 : τ.ival 6 = τ.ival 3 := by omega
  have h7 : τ.ival 7 = τ.ival 4 := by omega
  obtain ⟨x, y, z, kb, _, hx, hy, hz, hxy, hyz⟩ := bits3 (τ.ival 6) (τ.ival 7)
  have e8 : τ.ival 8 = IntKind.i64.wrap (BitVec.ofInt IntKind.i64.bits (τ.ival 6) &&& BitVec.ofInt IntKind.i64.bits (τ.ival 7)).toNat := eqI (e.at 2 _ rfl rfl) rfl
  obtain ⟨k8, p8, q8, r8⟩ := sp64 ((BitVec.ofInt IntKind.i64.bits (τ.ival 6) &&& BitVec.ofInt IntKind.i64.bits (τ.ival 7)).toNat : Int)
  rw [← e8] at p8 q8 r8
  clear e8
  have e10 : τ.ival 10 = IntKind.i64.wrap (BitVec.ofInt IntKind.i64.bits (τ.ival 6) ||| BitVec.ofInt IntKind.i64.bits (τ.ival 7)).toNat := eqI (e.at 4 _ rfl rfl) rfl
  obtain ⟨k10, p10, q10, r10⟩ := sp64 ((BitVec.ofInt IntKind.i64.bits (τ.ival 6) ||| BitVec.ofInt IntKind.i64.bits (τ.ival 7)).toNat : Int)
  rw [← e10] at p10 q10 r10
  clear e10
  have e12 : τ.ival 12 = IntKind.i64.wrap (BitVec.ofInt IntKind.i64.bits (τ.ival 6) ^^^ BitVec.ofInt IntKind.i64.bits (τ.ival 7)).toNat := eqI (e.at 6 _ rfl rfl) rfl
  obtain ⟨k12, p12, q12, r12⟩ := sp64 ((BitVec.ofInt IntKind.i64.bits (τ.ival 6) ^^^ BitVec.ofInt IntKind.i64.bits (τ.ival 7)).toNat : Int)
  rw [← e12] at p12 q12 r12
  clear e12
  replace p8 : τ.ival 8 = x + 18446744073709551616 * k8 := by rw [p8]; exact congrArg (· + 18446744073709551616 * k8) hx
  replace p10 : τ.ival 10 = y + 18446744073709551616 * k10 := by rw [p10]; exact congrArg (· + 18446744073709551616 * k10) hy
  replace p12 : τ.ival 12 = z + 18446744073709551616 * k12 := by rw [p12]; exact congrArg (· + 18446744073709551616 * k12) hz
  have e9 : τ.ival 9 = IntKind.i32.wrap (τ.ival 8) := eqI (e.at 3 _ rfl rfl) rfl
  obtain ⟨k9, p9, q9, r9⟩ := sp32 (τ.ival 8)
  rw [← e9] at p9 q9 r9
  clear e9
  have e11 : τ.ival 11 = IntKind.i32.wrap (τ.ival 10) := eqI (e.at 5 _ rfl rfl) rfl
  obtain ⟨k11, p11, q11, r11⟩ := sp32 (τ.ival 10)
  rw [← e11] at p11 q11 r11
  clear e11
  have e13 : τ.ival 13 = IntKind.i32.wrap (τ.ival 12) := eqI (e.at 7 _ rfl rfl) rfl
  obtain ⟨k13, p13, q13, r13⟩ := sp32 (τ.ival 12)
  rw [← e13] at p13 q13 r13
  clear e13
  have e19 : τ.ival 19 = IntKind.i64.wrap (τ.ival 9) := eqI (e.at 13 _ rfl rfl) rfl
  obtain ⟨k19, p19, q19, r19⟩ := sp64 (τ.ival 9)
  rw [← e19] at p19 q19 r19
  clear e19
  have e20 : τ.ival 20 = IntKind.i64.wrap (τ.ival 11) := eqI (e.at 14 _ rfl rfl) rfl
  obtain ⟨k20, p20, q20, r20⟩ := sp64 (τ.ival 11)
  rw [← e20] at p20 q20 r20
  clear e20
  have e26 : τ.ival 26 = IntKind.i64.wrap (τ.ival 20 - τ.ival 19) := eqI (e.at 20 _ rfl rfl) rfl
  obtain ⟨k26, p26, q26, r26⟩ := sp64 (τ.ival 20 - τ.ival 19)
  rw [← e26] at p26 q26 r26
  clear e26
  have e45 : τ.ival 45 = IntKind.i32.wrap (τ.ival 26) := eqI (e.at 39 _ rfl rfl) rfl
  obtain ⟨k45, p45, q45, r45⟩ := sp32 (τ.ival 26)
  rw [← e45] at p45 q45 r45
  clear e45
  have h19 : τ.ival 19 = τ.ival 9 := (sum64 p19 q9 r9 q11 r11 q19 r19 p20 q20 r20).1
  have h20 : τ.ival 20 = τ.ival 11 := (sum64 p19 q9 r9 q11 r11 q19 r19 p20 q20 r20).2
  rw [h19, h20] at p26
  have h26 : τ.ival 26 = τ.ival 11 - τ.ival 9 := by
    clear hx hy hz hxy hyz hs p8 p9 p10 p11 p19 p20
    exact id64 p26 (by omega) (by omega) q26 r26
  exact eq32 (linB2 p8 p9 p10 p11 p12 p13 h26 p45 hyz) q45 r45 q13 r13
set_option maxRecDepth 100000 in
theorem flH2c (τ : Sig) (e : Eqs τ 6 flHG) (hin : InsOk τ 6 flK3) (hj : flJ3 τ) (ht2 : τ.ival 2 = 2) : τ.ival 48 = τ.ival 41 := by
  have a3 := i32_range (hin 3 .i32 (by decide) rfl)
  have a4 := i32_range (hin 4 .i32 (by decide) rfl)
  obtain ⟨ks, hs⟩ := hj.2.2 ht2
  have e6 : τ.ival 6 = IntKind.i64.wrap (τ.ival 3) := eqI (e.at 0 _ rfl rfl) rfl
  obtain ⟨k6, p6, q6, r6⟩ := sp64 (τ.ival 3)
  rw [← e6] at p6 q6 r6
  clear e6
  have e7 : τ.ival 7 = IntKind.i64.wrap (τ.ival 4) := eqI (e.at 1 _ rfl rfl) rfl
  obtain ⟨k7, p7, q7, r7⟩ := sp64 (τ.ival 4)
  rw [← e7] at p7 q7 r7
  clear e7
  have h6 : τ.ival 6 = τ.ival 3 := by omega
  have h7 : τ.ival 7 = τ.ival 4 := by omega
  have e14 : τ.ival 14 = IntKind.i64.wrap (τ.ival 6 * 2) := eqI (e.at 8 _ rfl rfl) rfl
  obtain ⟨k14, p14, q14, r14⟩ := sp64 (τ.ival 6 * 2)
  rw [← e14] at p14 q14 r14
  have e31 : τ.ival 31 = IntKind.i64.wrap (τ.ival 6 + τ.ival 6) := eqI (e.at 25 _ rfl rfl) rfl
  obtain ⟨k31, p31, q31, r31⟩ := sp64 (τ.ival 6 + τ.ival 6)
  rw [← e31] at p31 q31 r31
  clear e31
  have e48 : τ.ival 48 = IntKind.i32.wrap (τ.ival 31) := eqI (e.at 42 _ rfl rfl) rfl
  obtain ⟨k48, p48, q48, r48⟩ := sp32 (τ.ival 31)
  rw [← e48] at p48 q48 r48
  clear e48
  have e41 : τ.ival 41 = IntKind.i32.wrap (τ.ival 14) := eqI (e.at 35 _ rfl rfl) rfl
  obtain ⟨k41, p41, q41, r41⟩ := sp32 (τ.ival 14)
  rw [← e41] at p41 q41 r41
  clear e41
  omega
set_option maxRecDepth 100000 in
theorem flHd (τ : Sig) (e : Eqs τ 6 flHG) (hin : InsOk τ 6 flK3) (hj : flJ3 τ) (ht2 : τ.ival 2 = τ.ival 2) : τ.bval 38 = false ∧ τ.bval 40 = false := by
  have a3 := i32_range (hin 3 .i32 (by decide) rfl)
  have a4 := i32_range (hin 4 .i32 (by decide) rfl)
  have e6 : τ.ival 6 = IntKind.i64.wrap (τ.ival 3) := eqI (e.at 0 _ rfl rfl) rfl
  obtain ⟨k6, p6, q6, r6⟩ := sp64 (τ.ival 3)
  rw [← e6] at p6 q6 r6
  clear e6
  have e7 : τ.ival 7 = IntKind.i64.wrap (τ.ival 4) := eqI (e.at 1 _ rfl rfl) rfl
  obtain ⟨k7, p7, q7, r7⟩ := sp64 (τ.ival 4)
  rw [← e7] at p7 q7 r7
  clear e7
  have h6 : τ.ival 6 = τ.ival 3 := by omega
  have h7 : τ.ival 7 = τ.ival 4 := by omega
  have e17 : τ.ival 17 = (τ.ival 6).fdiv 2 := eqI (e.at 11 _ rfl rfl) rfl
  rw [Int.fdiv_eq_ediv_of_nonneg _ (by decide)] at e17
  have e38 : τ.bval 38 = decide (τ.ival 37 > τ.ival 6) := eqB (e.at 32 _ rfl rfl) rfl
  have e40 : τ.bval 40 = decide (τ.ival 39 < τ.ival 6) := eqB (e.at 34 _ rfl rfl) rfl
  have e18 : τ.ival 18 = IntKind.i32.wrap (τ.ival 17) := eqI (e.at 12 _ rfl rfl) rfl
  obtain ⟨k18, p18, q18, r18⟩ := sp32 (τ.ival 17)
  rw [← e18] at p18 q18 r18
  clear e18
  have e36 : τ.ival 36 = IntKind.i64.wrap (τ.ival 18) := eqI (e.at 30 _ rfl rfl) rfl
  obtain ⟨k36, p36, q36, r36⟩ := sp64 (τ.ival 18)
  rw [← e36] at p36 q36 r36
  clear e36
  have e37 : τ.ival 37 = IntKind.i64.wrap (τ.ival 36 * 2) := eqI (e.at 31 _ rfl rfl) rfl
  obtain ⟨k37, p37, q37, r37⟩ := sp64 (τ.ival 36 * 2)
  rw [← e37] at p37 q37 r37
  clear e37
  have e39 : τ.ival 39 = IntKind.i64.wrap (τ.ival 37 + 1) := eqI (e.at 33 _ rfl rfl) rfl
  obtain ⟨k39, p39, q39, r39⟩ := sp64 (τ.ival 37 + 1)
  rw [← e39] at p39 q39 r39
  clear e39
  exact ⟨by rw [e38]; exact decide_eq_false (by omega), by rw [e40]; exact decide_eq_false (by omega)⟩
set_option maxRecDepth 100000 in
theorem flH_ob {W0 : World} {Z : Exit → Act → World → Prop} {k : Nat} (τ : Sig) (e : Eqs τ 6 flHG) (ht : τ.tab = noTab) (hin : InsOk τ 6 flK3) (hj : flJ3 τ) (hk : (3 - τ.ival 2).toNat = k) : segsW τ (fun x s σ2 => (x = .normal ∧ s = flS1 ∧ InsOk σ2 3 flK1 ∧ (flJb σ2 ∧ (3 - σ2.ival 2).toNat = k) ∧ σ2.tab = noTab) ∨ (x ≠ .normal ∧ EndZ noTab 292 W0 Z x s σ2)) flHW [] := by
  have e24 : τ.bval 24 = (τ.ival 23 == τ.ival 5) := eqB (e.at 18 _ rfl rfl) rfl
  have e25 : τ.bval 25 = (!τ.bval 24) := eqB (e.at 19 _ rfl rfl) rfl
  have e29 : τ.bval 29 = (τ.ival 28 == τ.ival 13) := eqB (e.at 23 _ rfl rfl) rfl
  have e30 : τ.bval 30 = (!τ.bval 29) := eqB (e.at 24 _ rfl rfl) rfl
  have e34 : τ.bval 34 = (τ.ival 33 == τ.ival 16) := eqB (e.at 28 _ rfl rfl) rfl
  have e35 : τ.bval 35 = (!τ.bval 34) := eqB (e.at 29 _ rfl rfl) rfl
  have e43 : τ.bval 43 = (τ.ival 42 == τ.ival 5) := eqB (e.at 37 _ rfl rfl) rfl
  have e44 : τ.bval 44 = (!τ.bval 43) := eqB (e.at 38 _ rfl rfl) rfl
  have e46 : τ.bval 46 = (τ.ival 45 == τ.ival 13) := eqB (e.at 40 _ rfl rfl) rfl
  have e47 : τ.bval 47 = (!τ.bval 46) := eqB (e.at 41 _ rfl rfl) rfl
  have e49 : τ.bval 49 = (τ.ival 48 == τ.ival 41) := eqB (e.at 43 _ rfl rfl) rfl
  have e50 : τ.bval 50 = (!τ.bval 49) := eqB (e.at 44 _ rfl rfl) rfl
  obtain ⟨d38, d40⟩ := flHd τ e hin hj rfl
  have n38 : τ.bval 38 = true → False := fun h => by rw [d38] at h; cases h
  have n40 : τ.bval 40 = true → False := fun h => by rw [d40] at h; cases h
  have h1 : ∀ {F}, Holds τ (F ++ [.isn 2 1]) → τ.ival 2 = 1 := fun {F} h => (holds_split F h).1
  have h2 : ∀ {F}, Holds τ (F ++ [.isn 2 2, .non 2 1]) → τ.ival 2 = 2 := fun {F} h => (holds_split F h).1
  refine ⟨⟨fun hF => nqF e24 e25 (flH1a τ e hin hj (h1 (F := [_]) hF)) hF.1, fun hF => nqF e29 e30 (flH1b τ e hin hj (h1 (F := [_, _]) hF)) hF.1, fun hF => nqF e34 e35 (flH1c τ e hin hj (h1 (F := [_, _, _]) hF)) hF.1, fun hF => n38 hF.1, fun hF => n40 hF.1, fun hF => ?_⟩,
    ⟨fun hF => nqF e43 e44 (flH2a τ e hin hj (h2 (F := [_]) hF)) hF.1, fun hF => nqF e46 e47 (flH2b τ e hin hj (h2 (F := [_, _]) hF)) hF.1, fun hF => nqF e49 e50 (flH2c τ e hin hj (h2 (F := [_, _, _]) hF)) hF.1, fun hF => n38 hF.1, fun hF => n40 hF.1, fun hF => ?_⟩, fun hF => ?_⟩
  · exact .inl ⟨rfl, rfl, insOk_asg e hin 12 (by kernel_rfl), ⟨.inl (h1 (F := [_, _, _, _, _]) hF), hk⟩, ht⟩
  · exact .inl ⟨rfl, rfl, insOk_asg e hin 12 (by kernel_rfl), ⟨.inr (h2 (F := [_, _, _, _, _]) hF), hk⟩, ht⟩
  · simp only [Holds, Fact.holds] at hF
    have := hj.1
    unfold flJ2 at this
    omega

set_option maxRecDepth 100000 in
theorem holds : FnOk Try.prog 4 flSs [.one .b] (fun _ => [1]) := by
  refine fn_of_stage (tab := noTab) (n := 292) Try.func4 (by kernel_rfl) (by kernel_rfl) (by simp [encS, flSs]) fun l W hl => ?_
  have c1 : flatC (bodyOf Try.f4) = (flatC (bodyOf Try.f4)).take 4 ++ (.block 0 (.loop (loopAt 4 (bodyOf Try.f4))) :: (flatC (bodyOf Try.f4)).drop 5) := by kernel_rfl
  have c2 : flatC (loopAt 4 (bodyOf Try.f4)) = (flatC (loopAt 4 (bodyOf Try.f4))).take 2 ++ (.block 1 (blkAt 2 (loopAt 4 (bodyOf Try.f4))) :: (flatC (loopAt 4 (bodyOf Try.f4))).drop 3) := by kernel_rfl
  have c3 : flatC (blkAt 2 (loopAt 4 (bodyOf Try.f4))) = (flatC (blkAt 2 (loopAt 4 (bodyOf Try.f4)))).take 1 ++ (((flatC (blkAt 2 (loopAt 4 (bodyOf Try.f4)))).drop 1).take 3 ++ (((flatC (blkAt 2 (loopAt 4 (bodyOf Try.f4)))).drop 4).take 4 ++ (((flatC (blkAt 2 (loopAt 4 (bodyOf Try.f4)))).drop 8).take 2 ++ (((flatC (blkAt 2 (loopAt 4 (bodyOf Try.f4)))).drop 10).take 5 ++ ((flatC (blkAt 2 (loopAt 4 (bodyOf Try.f4)))).drop 15 ++ []))))) := by kernel_rfl
  have fin : Stage Try.prog noTab 292 W (bodyPost Try.prog Try.f4 (fun e W' => e = .returned (encR [.one .b] [1]) ∧ Below W.heap.size W W')) ((flatC (bodyOf Try.f4)).drop 5) flSX 1 [some .i32] (fun _ => True) :=
    Stage.last mixed flJ_seg ⟨rfl, rfl⟩ (fun _ _ _ _ => trivial) (fun _ _ => rows_nil) (fun τ e ht hi _ => fun hF => endZ_res (vs := [.symb 0]) (by kernel_rfl) ⟨rfl, trivial⟩ (.inl rfl))
  rw [c1]
  refine Stage.seg (q2 := 3) (ins2 := flK1) (S2 := flS1) (J2 := flJ1) mixed flA_seg ⟨rfl, rfl⟩ (fun σ τ ag h i hi => by rw [← (ag.val i hi).1]; exact h i hi) (fun _ _ => rows_nil) ?_ (fun τ e ht hi _ => flA_ob τ e ht hi)
  refine Stage.loopS (μ := fun σ => (3 - σ.ival 2).toNat) fun k => ?_
  rw [c2]
  have agq : ∀ {q : Nat} {J : Sig → Prop} (hq : 2 < q) (hJ : ∀ σ τ, Agree q σ τ → J σ → J τ) (σ τ : Sig), Agree q σ τ → (J σ ∧ (3 - σ.ival 2).toNat = k) → J τ ∧ (3 - τ.ival 2).toNat = k := fun hq hJ σ τ ag h => ⟨hJ σ τ ag h.1, by rw [← (ag.val 2 hq).1]; exact h.2⟩
  refine Stage.seg (q2 := 3) (ins2 := flK1) (S2 := flS1) (J2 := fun σ => flJb σ ∧ (3 - σ.ival 2).toNat = k) mixed flB_seg ⟨rfl, rfl⟩ (agq (by decide) flJ1_agree) (fun _ _ => rows_nil) ?_ ?_
  rotate_left
  · intro τ e ht hi hj
    have e3 : τ.bval 3 = decide (τ.ival 2 ≤ 2) := eqB (e.at 0 _ rfl rfl) rfl
    refine ⟨fun hF => .inl ⟨rfl, rfl, insOk_asg e hi 12 (by kernel_rfl), ⟨?_, hj.2⟩, ht⟩, fun hF => .inr ⟨by simp, EndZ.out (by simp) (EndZ.blk fin (.inr rfl) (insOk_asg e hi 12 (by kernel_rfl)) trivial ht)⟩⟩
    have h : τ.bval 3 = true := hF.1
    rw [e3, decide_eq_true_eq] at h
    have := hj.1
    unfold flJ1 at this
    show τ.ival 2 = 1 ∨ τ.ival 2 = 2
    omega
  have last : Stage Try.prog noTab 292 W (LoopZ Try.prog 0 ((flatC (bodyOf Try.f4)).drop 5) (bodyPost Try.prog Try.f4 (fun e W' => e = .returned (encR [.one .b] [1]) ∧ Below W.heap.size W W')) (InvS noTab 292 W flS1 3 flK1 flJ1 (fun σ => (3 - σ.ival 2).toNat)) k) ((flatC (loopAt 4 (bodyOf Try.f4))).drop 3) flS1 3 flK1 (fun σ => flJb σ ∧ (3 - σ.ival 2).toNat = k) := by
    refine Stage.last mixed flI_seg ⟨rfl, rfl⟩ (agq (by decide) flJb_agree) (fun _ _ => rows_nil) fun τ e ht hi hj => fun hF => EndZ.loop (insOk_asg e hi 12 (by kernel_rfl)) ?_ ht ?_
    all_goals
      have e3 : τ.ival 3 = IntKind.i64.wrap (τ.ival 2 + 1) := eqI (e.at 0 _ rfl rfl) rfl
      obtain ⟨k3, p3, q3, r3⟩ := sp64 (τ.ival 2 + 1)
      rw [← e3] at p3 q3 r3
      have h := hj.1
      unfold flJb at h
    · show τ.ival 3 = 1 ∨ τ.ival 3 = 2 ∨ τ.ival 3 = 3; omega
    · rw [← hj.2]; show (3 - τ.ival 3).toNat < (3 - τ.ival 2).toNat; omega
  refine Stage.block ?_
  rw [c3]
  refine Stage.seg (q2 := 5) (ins2 := flK2) (S2 := flS2) (J2 := fun σ => flJ2 σ ∧ (3 - σ.ival 2).toNat = k) mixed flC_seg ⟨rfl, rfl⟩ (agq (by decide) flJb_agree) (fun _ _ => rows_nil) ?_ (fun τ e ht hi hj => flC_ob τ e ht hi hj.1 hj.2)
  refine Stage.seg (q2 := 6) (ins2 := flK3) (S2 := flS3) (J2 := fun σ => flJ3 σ ∧ (3 - σ.ival 2).toNat = k) mixed flD_seg ⟨rfl, rfl⟩ (agq (by decide) flJ2_agree) (fun _ _ => rows_nil) ?_ (fun τ e ht hi hj => flD_ob τ e ht hi hj.1 hj.2)
  refine Stage.seg (q2 := 9) (ins2 := flK4) (S2 := flS4) (J2 := fun σ => flJ4 σ ∧ (3 - σ.ival 2).toNat = k) mixed flE_seg ⟨rfl, rfl⟩ (agq (by decide) flJ3_agree) (fun _ _ => rows_nil) ?_ (fun τ e ht hi hj => flE_ob τ e ht hi hj.1 hj.2)
  refine Stage.seg (q2 := 6) (ins2 := flK3) (S2 := flS3) (J2 := fun σ => flJ3 σ ∧ (3 - σ.ival 2).toNat = k) mixed flF_seg ⟨rfl, rfl⟩ (agq (by decide) flJ4_agree) (fun _ _ => rows_nil) ?_ (fun τ e ht hi hj => flF_ob τ e ht hi hj.1 hj.2)
  refine Stage.seg (q2 := 6) (ins2 := flK3) (S2 := flS3) (J2 := fun σ => flJ3 σ ∧ (3 - σ.ival 2).toNat = k) mixed flG_seg ⟨rfl, rfl⟩ (agq (by decide) flJ3_agree) (fun _ _ => rows_nil) ?_ (fun τ e ht hi hj => flG_ob τ e ht hi hj.1 hj.2)
  refine Stage.seg (q2 := 3) (ins2 := flK1) (S2 := flS1) (J2 := fun σ => flJb σ ∧ (3 - σ.ival 2).toNat = k) mixed flH_seg ⟨rfl, rfl⟩ (agq (by decide) flJ3_agree) (fun _ _ => rows_nil) ?_ (fun τ e ht hi hj => flH_ob τ e ht hi hj.1 hj.2)
  exact fun a w σ hA hi hj ht => last a w σ hA hi hj ht

section
variable {H : Type} {enc : TypeId × Value → H} {P : Program}
theorem post_of_below {f : Func} {s : ChangeSpec} {apart fresh handsOn again : Bool} {W W' : World} {args : Array Value} {v : Value} {ds gs : List (DataW H)} {before pa pv : List MemPlace}
    (hW : DataW.Whole enc P f.params.toList s.vars apart W args.toList ds gs before)
    (hres : ∀ (b : Nat) (sp : Nat → Bool) (hd : Bool), DataW.TrodAll enc P W' b sp hd f.resultTypes.toList (v.resultList f.resultTypes.size) (s.fn H (ds ++ gs)).results [])
    (hargs : ∀ sp : Nat → Bool, (∀ p ∈ before, sp p.block = true) → DataW.TrodAll enc P W' 0 sp true f.params.toList args.toList (s.fn H (ds ++ gs)).args pa)
    (hvars : ∀ sp : Nat → Bool, (∀ p ∈ before, sp p.block = true) → DataW.TrodVars enc P W' sp s.vars (s.fn H (ds ++ gs)).vars pv)
    (hps : before = pa ++ pv) (hb : Below W.heap.size W W')
    (hok : ∀ (j : Nat) (t : TypeId) (r : Value), f.resultTypes[j]? = some t → (v.resultList f.resultTypes.size)[j]? = some r → Value.okWide P W' .any 0 t r) :
    s.post enc P f apart fresh handsOn again W args v W' := by
  have hlt : ∀ p ∈ before, p.block < W.heap.size := fun p hp => hW.lt p hp
  have hold : ∀ p ∈ before, (fun b => decide (b < W.heap.size)) p.block = true := fun p hp => by simpa using hlt p hp
  refine ⟨ds, gs, before, [], pa, pv, hW, hres _ _ _, hargs _ hold, hvars _ hold, World.keptBut_mono (fun p hp => ⟨hp, ?_⟩) (hb.frame (· ∈ before)), fun _ => ?_⟩
  · rw [hps, List.mem_append] at hp
    exact Or.inr hp
  · obtain ⟨_, _, _, _, _, hz, hn⟩ := hW
    refine ⟨hok, _, _, ([] ++ pa) ++ pv, ⟨[] ++ pa, pv, trodAll_append (hargs _ (fun _ _ => rfl)) (hres _ _ _), hvars _ (fun _ _ => rfl), rfl, ?_, ?_⟩, ?_⟩
    · intro b off hp
      have hin : MemPlace.cell b off ∈ before := by rw [hps]; simpa using hp
      rw [hb.frozen (hlt _ hin)]
      exact hz b off hin
    · intro ha
      have := hn ha
      rw [hps] at this
      simpa using this
    · intro p hp _
      rw [hps]
      simpa using hp
end

theorem flat21 : flat Try.prog 6 21 = some [.i .i32] := by kernel_rfl
theorem agg21 : Ev.isAgg Try.prog 21 = false := by kernel_rfl

set_option maxRecDepth 100000 in
theorem lifted (os : Os) (started : os.Started) (H : Type) (enc : TypeId × Value → H) :
    ReturnsInHanded {} Try.checked os 4 .any (Rows.foldLawsSpec.pre6 enc Try.prog Try.f4 Rows.foldLawsRow.domain false) (Rows.foldLawsSpec.post enc Try.prog Try.f4 false true false false) := by
  refine returnsInHanded_of_change (C := Try.checked) own started (by kernel_rfl) Try.func4
    (ChangeSpec.witness6 (enc := enc) (C := Try.checked) false ⟨#[], #[.int .i32 0, .int .i32 0], []⟩ 8 (by kernel_rfl) (by kernel_rfl) (by kernel_rfl) (by kernel_rfl)) ?_
  intro W base args ds gs before hval0 hW hcnd _
  have hval : ∀ (j : Nat) t v, Try.f4.params[j]? = some t → args[j]? = some v → Value.okWide Try.prog W .any base t v := hval0
  have hW' := hW
  obtain ⟨p, q, hA0, hV, rfl, hfz, hnd⟩ := hW
  have hA : DataW.TrodAll enc Try.prog W 0 (fun _ => true) true Try.f4.params.toList args.toList ds p := hA0
  rw [Try.params4] at hA hval
  obtain ⟨v0, vs0, d0, ds0, p0, q0, hargs, rfl, rfl, h0, r0⟩ := trodAll_cons hA
  obtain ⟨v1, vs1, d1, ds1, p1, q1, rfl, rfl, rfl, h1, r1⟩ := trodAll_cons r0
  obtain ⟨rfl, rfl, rfl⟩ := trodAll_nil r1
  obtain rfl : args = #[v0, v1] := by cases args; simp_all
  obtain ⟨rfl, rfl⟩ := trodVars_none hV
  obtain ⟨x0, i0, rfl, rfl⟩ := open_one flat21 agg21 (hval 0 21 v0 rfl rfl) h0
  obtain ⟨x1, i1, rfl, rfl⟩ := open_one flat21 agg21 (hval 1 21 v1 rfl rfl) h1
  clear hA0 hval0
  simp only [List.append_nil] at hW'
  have hc := holds ([x0] ++ ([x1] ++ [])) (inR_append i0 (inR_append i1 rfl)) W
  rw [show encS flSs ([x0] ++ ([x1] ++ [])) = [encC (.i .i32) x0, encC (.i .i32) x1] from by
    simp only [flSs]
    rfl] at hc
  refine hc.mono fun e W' ⟨he, hg⟩ => ?_
  subst he
  exact ⟨_, rfl, post_of_below (pa := []) (pv := []) hW' (fun _ _ _ => (trodAll_cons_mk (shut_bool Try.underlying4 _) trodAll_mk0)) (fun sp _ => (trodAll_cons_mk (shut_flat flat21 h0) (trodAll_cons_mk (shut_flat flat21 h1) trodAll_mk0))) (fun _ _ => rfl) rfl
    hg (ok_one (by kernel_rfl) rfl (okWide_bool_mk Try.underlying4 _))⟩

theorem over : Rows.foldLawsRow.holds Try.pinned (OpenSpec.ofChange Rows.foldLawsSpec) :=
  OpenClaim.holds_of_wide 4 Try.f4 rfl rfl rfl rfl rfl rfl rfl ⟨rfl, rfl, rfl, rfl, rfl⟩ rfl rfl rfl rfl rfl (by kernel_rfl) Try.func4 (by kernel_rfl)
    (of_decide_eq_true (by kernel_rfl)) (by unfold Func.isWrapper; first | (rw [if_pos (by decide +kernel)]; kernel_rfl) | (rw [if_neg (by decide +kernel)]; exact ⟨rfl, rfl⟩))
    (fun os started H enc _ => lifted os started H enc)

/-- THE STATEMENT -/
theorem proved : Rows.FoldLawsSaid :=
  over
#print axioms proved
end Go.Proofs.Ytbflcpaebifcfaa.foldLaws
