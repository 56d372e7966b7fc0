/-
  GpioEdges is true: the eight pins are gone through by a loop whose counter is split; what rises is one of 256 numbers.
  No conditions.
-/
import Derived.Test.YtgifnmiggloclaaRows
import Derived.Test.YtgifnmiggloclaaChecked
import Derived.WalkKit
import Derived.ProofKit
import Derived.OpenShut
import Derived.Below
import Derived.ChangeSame
import Derived.Test.YtgifnmiggloclaaEwZk
namespace Go.Proofs.Ytgifnmiggloclaa.gpioEdges
open Go.ChangeShapes Go.WideShapes Go.ChangeAt Go.RowKit
open Go.Ev
set_option linter.unusedVariables false
set_option linter.unusedSimpArgs false

theorem own : ownKnob Try.prog.godebug = none := by kernel_rfl
theorem mixed : Try.prog.follows .mixedOrders = true := Checked.mixed Try.checked
theorem works_run : isTrue ((evD Try.prog (cxOf noIng) true 1000 40).1 [] 35 [] ⟨[], []⟩) = true := by kernel_rfl
theorem works_contract : FnOk Try.prog 35 [] [.one .b] (fun _ => [1]) := fun l hl w => closed_hook ⟨rfl, rfl, rfl, rfl, rfl, rfl⟩ (hm := mixed) (hh := fun F => no_hooks rfl F) (h := works_run) (w := w)

def geTru : List Ent := [⟨35, [], [.one .b], 0⟩]
def geSs : List Sh := [.one (.i .u8), .one (.i .u8), .agg [.i .u8, .i .u8, .i .u8]]
def geS0 : Shape := ⟨argT 0 (symSh geSs 0), []⟩
def geS1 : Shape := ⟨[(0, .symi .u8 0), (1, .symi .u8 1), (7, .symi .u8 2), (8, .symi .u8 3), (12, .symb 4), (13, .symb 5), (14, .symi .i64 6)], []⟩
def geS4 : Shape := ⟨[(0, .symi .u8 0), (1, .symi .u8 1), (7, .symi .u8 2), (8, .symi .u8 3), (12, .symb 4), (13, .symb 5)], []⟩
def geS2 : Shape := ⟨[(1, .symi .u8 0), (7, .symi .u8 1)], []⟩
def geS3 : Shape := ⟨[(1, .symi .u8 0), (7, .symi .u8 1), (18, .symi .u8 2)], []⟩
def geSE : Shape := ⟨[(6, .symb 0)], []⟩
def geK : List (Option IntKind) := [some .u8, some .u8, some .u8, some .u8, some .u8]
def geK1 : List (Option IntKind) := [some .u8, some .u8, some .u8, some .u8, none, none, some .i64]
def geK4 : List (Option IntKind) := [some .u8, some .u8, some .u8, some .u8, none, none]

theorem ge_tru : ∀ e, e ∈ geTru → FnOk Try.prog e.f e.ins [.one .b] (fun _ => [1]) := by
  intro e he
  simp only [geTru, List.mem_singleton] at he
  subst he
  exact works_contract

set_option maxRecDepth 100000 in
def geAG : List SDef := [.bin .andNot (.symi .u8 2) (.symi .u8 1),
  .bin .and (.symi .u8 5) (.symi .u8 0),
  .bin .neq (.symi .u8 6) (.int .u8 0),
  .bin .andNot (.symi .u8 2) (.symi .u8 2),
  .bin .and (.symi .u8 8) (.symi .u8 0),
  .bin .neq (.symi .u8 9) (.int .u8 0)]

def geAT : LT := .n (.n (.n (.e) 505031881 6 (.bin .and (.symi .u8 5) (.symi .u8 0)) (.e)) 545384585 5 (.bin .andNot (.symi .u8 2) (.symi .u8 1)) (.n (.e) 606012219 7 (.bin .neq (.symi .u8 6) (.int .u8 0)) (.e))) 808032790 9 (.bin .and (.symi .u8 8) (.symi .u8 0)) (.n (.n (.e) 888738163 8 (.bin .andNot (.symi .u8 2) (.symi .u8 2)) (.e)) 909013128 10 (.bin .neq (.symi .u8 9) (.int .u8 0)) (.e))

def geAW : Sw := .run (.node 10 (.dead) (.leaf .normal geS1 [] [(0, .symi .u8 0), (1, .symi .u8 1), (2, .symi .u8 2), (3, .symi .u8 3), (4, .symb 7), (5, .bool false), (6, .int .i64 0)] []))
set_option maxRecDepth 100000 in
def geBG : List SDef := [.bin .andNot (.symi .u8 2) (.symi .u8 1),
  .bin .and (.symi .u8 7) (.int .u8 1),
  .bin .neq (.symi .u8 8) (.int .u8 0),
  .bin .and (.symi .u8 1) (.int .u8 1),
  .bin .eql (.symi .u8 10) (.int .u8 0),
  .bin .and (.symi .u8 2) (.int .u8 1),
  .bin .neq (.symi .u8 12) (.int .u8 0),
  .bin .neq (.symb 9) (.symb 13),
  .bin .neq (.symb 9) (.bool false),
  .bin .and (.symi .u8 0) (.int .u8 1),
  .bin .neq (.symi .u8 16) (.int .u8 0),
  .ite (.symb 17) (.symb 9) (.bool false),
  .ite (.symb 5) (.bool true) (.symb 18),
  .bin .and (.symi .u8 7) (.int .u8 2),
  .bin .neq (.symi .u8 20) (.int .u8 0),
  .bin .and (.symi .u8 1) (.int .u8 2),
  .bin .eql (.symi .u8 22) (.int .u8 0),
  .bin .and (.symi .u8 2) (.int .u8 2),
  .bin .neq (.symi .u8 24) (.int .u8 0),
  .bin .neq (.symb 21) (.symb 25),
  .bin .neq (.symb 21) (.bool false),
  .bin .and (.symi .u8 0) (.int .u8 2),
  .bin .neq (.symi .u8 28) (.int .u8 0),
  .ite (.symb 29) (.symb 21) (.bool false),
  .ite (.symb 5) (.bool true) (.symb 30),
  .bin .and (.symi .u8 7) (.int .u8 4),
  .bin .neq (.symi .u8 32) (.int .u8 0),
  .bin .and (.symi .u8 1) (.int .u8 4),
  .bin .eql (.symi .u8 34) (.int .u8 0),
  .bin .and (.symi .u8 2) (.int .u8 4),
  .bin .neq (.symi .u8 36) (.int .u8 0),
  .bin .neq (.symb 33) (.symb 37),
  .bin .neq (.symb 33) (.bool false),
  .bin .and (.symi .u8 0) (.int .u8 4),
  .bin .neq (.symi .u8 40) (.int .u8 0),
  .ite (.symb 41) (.symb 33) (.bool false),
  .ite (.symb 5) (.bool true) (.symb 42),
  .bin .and (.symi .u8 7) (.int .u8 8),
  .bin .neq (.symi .u8 44) (.int .u8 0),
  .bin .and (.symi .u8 1) (.int .u8 8),
  .bin .eql (.symi .u8 46) (.int .u8 0),
  .bin .and (.symi .u8 2) (.int .u8 8),
  .bin .neq (.symi .u8 48) (.int .u8 0),
  .bin .neq (.symb 45) (.symb 49),
  .bin .neq (.symb 45) (.bool false),
  .bin .and (.symi .u8 0) (.int .u8 8),
  .bin .neq (.symi .u8 52) (.int .u8 0),
  .ite (.symb 53) (.symb 45) (.bool false),
  .ite (.symb 5) (.bool true) (.symb 54),
  .bin .and (.symi .u8 7) (.int .u8 16),
  .bin .neq (.symi .u8 56) (.int .u8 0),
  .bin .and (.symi .u8 1) (.int .u8 16),
  .bin .eql (.symi .u8 58) (.int .u8 0),
  .bin .and (.symi .u8 2) (.int .u8 16),
  .bin .neq (.symi .u8 60) (.int .u8 0),
  .bin .neq (.symb 57) (.symb 61),
  .bin .neq (.symb 57) (.bool false),
  .bin .and (.symi .u8 0) (.int .u8 16),
  .bin .neq (.symi .u8 64) (.int .u8 0),
  .ite (.symb 65) (.symb 57) (.bool false),
  .ite (.symb 5) (.bool true) (.symb 66),
  .bin .and (.symi .u8 7) (.int .u8 32),
  .bin .neq (.symi .u8 68) (.int .u8 0),
  .bin .and (.symi .u8 1) (.int .u8 32),
  .bin .eql (.symi .u8 70) (.int .u8 0),
  .bin .and (.symi .u8 2) (.int .u8 32),
  .bin .neq (.symi .u8 72) (.int .u8 0),
  .bin .neq (.symb 69) (.symb 73),
  .bin .neq (.symb 69) (.bool false),
  .bin .and (.symi .u8 0) (.int .u8 32),
  .bin .neq (.symi .u8 76) (.int .u8 0),
  .ite (.symb 77) (.symb 69) (.bool false),
  .ite (.symb 5) (.bool true) (.symb 78),
  .bin .and (.symi .u8 7) (.int .u8 64),
  .bin .neq (.symi .u8 80) (.int .u8 0),
  .bin .and (.symi .u8 1) (.int .u8 64),
  .bin .eql (.symi .u8 82) (.int .u8 0),
  .bin .and (.symi .u8 2) (.int .u8 64),
  .bin .neq (.symi .u8 84) (.int .u8 0),
  .bin .neq (.symb 81) (.symb 85),
  .bin .neq (.symb 81) (.bool false),
  .bin .and (.symi .u8 0) (.int .u8 64),
  .bin .neq (.symi .u8 88) (.int .u8 0),
  .ite (.symb 89) (.symb 81) (.bool false),
  .ite (.symb 5) (.bool true) (.symb 90),
  .bin .and (.symi .u8 7) (.int .u8 128),
  .bin .neq (.symi .u8 92) (.int .u8 0),
  .bin .and (.symi .u8 1) (.int .u8 128),
  .bin .eql (.symi .u8 94) (.int .u8 0),
  .bin .and (.symi .u8 2) (.int .u8 128),
  .bin .neq (.symi .u8 96) (.int .u8 0),
  .bin .neq (.symb 93) (.symb 97),
  .bin .neq (.symb 93) (.bool false),
  .bin .and (.symi .u8 0) (.int .u8 128),
  .bin .neq (.symi .u8 100) (.int .u8 0),
  .ite (.symb 101) (.symb 93) (.bool false),
  .ite (.symb 5) (.bool true) (.symb 102),
  .bin .lss (.symi .i64 6) (.int .i64 8)]

def geBT : LT := .n (.n (.n (.n (.n (.n (.n (.e) 60387 16 (.bin .and (.symi .u8 0) (.int .u8 1)) (.e)) 110422 28 (.bin .and (.symi .u8 0) (.int .u8 2)) (.n (.e) 210492 40 (.bin .and (.symi .u8 0) (.int .u8 4)) (.e))) 410632 52 (.bin .and (.symi .u8 0) (.int .u8 8)) (.n (.n (.e) 810912 64 (.bin .and (.symi .u8 0) (.int .u8 16)) (.e)) 1611472 76 (.bin .and (.symi .u8 0) (.int .u8 32)) (.e))) 3212592 88 (.bin .and (.symi .u8 0) (.int .u8 64)) (.n (.n (.n (.e) 6414832 100 (.bin .and (.symi .u8 0) (.int .u8 128)) (.e)) 7890953 14 (.bin .neq (.symb 9) (.symb 13)) (.e)) 10794616 33 (.bin .neq (.symi .u8 32) (.int .u8 0)) (.n (.n (.e) 21578831 65 (.bin .neq (.symi .u8 64) (.int .u8 0)) (.e)) 32363046 97 (.bin .neq (.symi .u8 96) (.int .u8 0)) (.e)))) 74533406 23 (.bin .eql (.symi .u8 22) (.int .u8 0)) (.n (.n (.n (.n (.e) 101060690 10 (.bin .and (.symi .u8 1) (.int .u8 1)) (.e)) 101110725 22 (.bin .and (.symi .u8 1) (.int .u8 2)) (.e)) 101210795 34 (.bin .and (.symi .u8 1) (.int .u8 4)) (.n (.n (.e) 101410935 46 (.bin .and (.symi .u8 1) (.int .u8 8)) (.e)) 101811215 58 (.bin .and (.symi .u8 1) (.int .u8 16)) (.e))) 102611775 70 (.bin .and (.symi .u8 1) (.int .u8 32)) (.n (.n (.n (.e) 104212895 82 (.bin .and (.symi .u8 1) (.int .u8 64)) (.e)) 107415135 94 (.bin .and (.symi .u8 1) (.int .u8 128)) (.e)) 112055425 39 (.bin .neq (.symb 33) (.bool false)) (.n (.n (.e) 113825269 54 (.ite (.symb 53) (.symb 45) (.bool false)) (.e)) 138272210 13 (.bin .neq (.symi .u8 12) (.int .u8 0)) (.e))))) 149056425 45 (.bin .neq (.symi .u8 44) (.int .u8 0)) (.n (.n (.n (.n (.n (.e) 159840640 77 (.bin .neq (.symi .u8 76) (.int .u8 0)) (.e)) 191891176 19 (.ite (.symb 5) (.bool true) (.symb 18)) (.n (.e) 202060993 12 (.bin .and (.symi .u8 2) (.int .u8 1)) (.e))) 202111028 24 (.bin .and (.symi .u8 2) (.int .u8 2)) (.n (.n (.e) 202211098 36 (.bin .and (.symi .u8 2) (.int .u8 4)) (.e)) 202411238 48 (.bin .and (.symi .u8 2) (.int .u8 8)) (.e))) 202811518 60 (.bin .and (.symi .u8 2) (.int .u8 16)) (.n (.n (.n (.e) 203612078 72 (.bin .and (.symi .u8 2) (.int .u8 32)) (.e)) 205213198 84 (.bin .and (.symi .u8 2) (.int .u8 64)) (.e)) 208415438 96 (.bin .and (.symi .u8 2) (.int .u8 128)) (.n (.n (.e) 212795215 35 (.bin .eql (.symi .u8 34) (.int .u8 0)) (.e)) 250353594 51 (.bin .neq (.symb 45) (.bool false)) (.e)))) 259361429 55 (.ite (.symb 5) (.bool true) (.symb 54)) (.n (.n (.n (.n (.e) 276534019 25 (.bin .neq (.symi .u8 24) (.int .u8 0)) (.e)) 287318234 57 (.bin .neq (.symi .u8 56) (.int .u8 0)) (.e)) 298102449 89 (.bin .neq (.symi .u8 88) (.int .u8 0)) (.n (.n (.e) 326831682 91 (.ite (.symb 5) (.bool true) (.symb 90)) (.e)) 348713836 66 (.ite (.symb 65) (.symb 57) (.bool false)) (.e))) 351057024 47 (.bin .eql (.symi .u8 46) (.int .u8 0)) (.n (.n (.n (.e) 388651763 63 (.bin .neq (.symb 57) (.bool false)) (.e)) 414795828 37 (.bin .neq (.symi .u8 36) (.int .u8 0)) (.e)) 425580043 69 (.bin .neq (.symi .u8 68) (.int .u8 0)) (.n (.n (.e) 436364258 101 (.bin .neq (.symi .u8 100) (.int .u8 0)) (.e)) 482901395 18 (.ite (.symb 17) (.symb 9) (.bool false)) (.e)))))) 489318833 59 (.bin .eql (.symi .u8 58) (.int .u8 0)) (.n (.n (.n (.n (.n (.n (.e) 526949932 75 (.bin .neq (.symb 69) (.bool false)) (.e)) 542273422 17 (.bin .neq (.symi .u8 16) (.int .u8 0)) (.n (.e) 545384585 7 (.bin .andNot (.symi .u8 2) (.symi .u8 1)) (.e))) 553057637 49 (.bin .neq (.symi .u8 48) (.int .u8 0)) (.n (.n (.e) 563841852 81 (.bin .neq (.symi .u8 80) (.int .u8 0)) (.e)) 583602403 78 (.ite (.symb 77) (.symb 69) (.bool false)) (.e))) 594785287 43 (.ite (.symb 5) (.bool true) (.symb 42)) (.n (.n (.n (.e) 606412506 104 (.bin .lss (.symi .i64 6) (.int .i64 8)) (.e)) 627580642 71 (.bin .eql (.symi .u8 70) (.int .u8 0)) (.e)) 662255540 79 (.ite (.symb 5) (.bool true) (.symb 78)) (.n (.n (.e) 665248101 87 (.bin .neq (.symb 81) (.bool false)) (.e)) 680535231 29 (.bin .neq (.symi .u8 28) (.int .u8 0)) (.e)))) 691319446 61 (.bin .neq (.symi .u8 60) (.int .u8 0)) (.n (.n (.n (.n (.e) 702103661 93 (.bin .neq (.symi .u8 92) (.int .u8 0)) (.e)) 707062508 8 (.bin .and (.symi .u8 7) (.int .u8 1)) (.e)) 707112543 20 (.bin .and (.symi .u8 7) (.int .u8 2)) (.n (.n (.e) 707212613 32 (.bin .and (.symi .u8 7) (.int .u8 4)) (.e)) 707412753 44 (.bin .and (.symi .u8 7) (.int .u8 8)) (.e))) 707813033 56 (.bin .and (.symi .u8 7) (.int .u8 16)) (.n (.n (.n (.e) 708613593 68 (.bin .and (.symi .u8 7) (.int .u8 32)) (.e)) 710214713 80 (.bin .and (.symi .u8 7) (.int .u8 64)) (.e)) 713416953 92 (.bin .and (.symi .u8 7) (.int .u8 128)) (.n (.n (.e) 717789962 30 (.ite (.symb 29) (.symb 21) (.bool false)) (.e)) 765842451 83 (.bin .eql (.symi .u8 82) (.int .u8 0)) (.e))))) 803546270 99 (.bin .neq (.symb 93) (.bool false)) (.n (.n (.n (.n (.n (.e) 808012825 9 (.bin .neq (.symi .u8 8) (.int .u8 0)) (.e)) 818490970 90 (.ite (.symb 89) (.symb 81) (.bool false)) (.e)) 818797040 41 (.bin .neq (.symi .u8 40) (.int .u8 0)) (.n (.n (.e) 829581255 73 (.bin .neq (.symi .u8 72) (.int .u8 0)) (.e)) 851866999 98 (.bin .neq (.symb 93) (.symb 97)) (.e))) 884690682 86 (.bin .neq (.symb 81) (.symb 85)) (.n (.n (.n (.e) 904104260 95 (.bin .eql (.symi .u8 94) (.int .u8 0)) (.e)) 909200914 15 (.bin .neq (.symb 9) (.bool false)) (.e)) 917514365 74 (.bin .neq (.symb 69) (.symb 73)) (.n (.n (.e) 930209145 31 (.ite (.symb 5) (.bool true) (.symb 30)) (.e)) 946274634 21 (.bin .neq (.symi .u8 20) (.int .u8 0)) (.e)))) 950338048 62 (.bin .neq (.symb 57) (.symb 61)) (.n (.n (.n (.n (.e) 952678529 42 (.ite (.symb 41) (.symb 33) (.bool false)) (.e)) 957058849 53 (.bin .neq (.symi .u8 52) (.int .u8 0)) (.e)) 967843064 85 (.bin .neq (.symi .u8 84) (.int .u8 0)) (.n (.n (.e) 983161731 50 (.bin .neq (.symb 45) (.symb 49)) (.e)) 997679398 67 (.ite (.symb 5) (.bool true) (.symb 66)) (.e))) 1010013424 11 (.bin .eql (.symi .u8 10) (.int .u8 0)) (.n (.n (.n (.e) 1015985414 38 (.bin .neq (.symb 33) (.symb 37)) (.e)) 1047499083 27 (.bin .neq (.symb 21) (.bool false)) (.e)) 1048809097 26 (.bin .neq (.symb 21) (.symb 25)) (.n (.n (.e) 1053379537 102 (.ite (.symb 101) (.symb 93) (.bool false)) (.e)) 1065149651 103 (.ite (.symb 5) (.bool true) (.symb 102)) (.e))))))

def geBW : Sw := .pick 6 0 (.run (.node 11 (.node 14 (.dead) (.leaf .normal geS1 [] [(0, .symi .u8 0), (1, .symi .u8 1), (2, .symi .u8 2), (3, .symi .u8 3), (4, .symb 4), (5, .symb 19), (6, .int .i64 1)] [])) (.node 15 (.dead) (.leaf .normal geS1 [] [(0, .symi .u8 0), (1, .symi .u8 1), (2, .symi .u8 2), (3, .symi .u8 3), (4, .symb 4), (5, .symb 19), (6, .int .i64 1)] [])))) (.pick 6 1 (.run (.node 23 (.node 26 (.dead) (.leaf .normal geS1 [] [(0, .symi .u8 0), (1, .symi .u8 1), (2, .symi .u8 2), (3, .symi .u8 3), (4, .symb 4), (5, .symb 31), (6, .int .i64 2)] [])) (.node 27 (.dead) (.leaf .normal geS1 [] [(0, .symi .u8 0), (1, .symi .u8 1), (2, .symi .u8 2), (3, .symi .u8 3), (4, .symb 4), (5, .symb 31), (6, .int .i64 2)] [])))) (.pick 6 2 (.run (.node 35 (.node 38 (.dead) (.leaf .normal geS1 [] [(0, .symi .u8 0), (1, .symi .u8 1), (2, .symi .u8 2), (3, .symi .u8 3), (4, .symb 4), (5, .symb 43), (6, .int .i64 3)] [])) (.node 39 (.dead) (.leaf .normal geS1 [] [(0, .symi .u8 0), (1, .symi .u8 1), (2, .symi .u8 2), (3, .symi .u8 3), (4, .symb 4), (5, .symb 43), (6, .int .i64 3)] [])))) (.pick 6 3 (.run (.node 47 (.node 50 (.dead) (.leaf .normal geS1 [] [(0, .symi .u8 0), (1, .symi .u8 1), (2, .symi .u8 2), (3, .symi .u8 3), (4, .symb 4), (5, .symb 55), (6, .int .i64 4)] [])) (.node 51 (.dead) (.leaf .normal geS1 [] [(0, .symi .u8 0), (1, .symi .u8 1), (2, .symi .u8 2), (3, .symi .u8 3), (4, .symb 4), (5, .symb 55), (6, .int .i64 4)] [])))) (.pick 6 4 (.run (.node 59 (.node 62 (.dead) (.leaf .normal geS1 [] [(0, .symi .u8 0), (1, .symi .u8 1), (2, .symi .u8 2), (3, .symi .u8 3), (4, .symb 4), (5, .symb 67), (6, .int .i64 5)] [])) (.node 63 (.dead) (.leaf .normal geS1 [] [(0, .symi .u8 0), (1, .symi .u8 1), (2, .symi .u8 2), (3, .symi .u8 3), (4, .symb 4), (5, .symb 67), (6, .int .i64 5)] [])))) (.pick 6 5 (.run (.node 71 (.node 74 (.dead) (.leaf .normal geS1 [] [(0, .symi .u8 0), (1, .symi .u8 1), (2, .symi .u8 2), (3, .symi .u8 3), (4, .symb 4), (5, .symb 79), (6, .int .i64 6)] [])) (.node 75 (.dead) (.leaf .normal geS1 [] [(0, .symi .u8 0), (1, .symi .u8 1), (2, .symi .u8 2), (3, .symi .u8 3), (4, .symb 4), (5, .symb 79), (6, .int .i64 6)] [])))) (.pick 6 6 (.run (.node 83 (.node 86 (.dead) (.leaf .normal geS1 [] [(0, .symi .u8 0), (1, .symi .u8 1), (2, .symi .u8 2), (3, .symi .u8 3), (4, .symb 4), (5, .symb 91), (6, .int .i64 7)] [])) (.node 87 (.dead) (.leaf .normal geS1 [] [(0, .symi .u8 0), (1, .symi .u8 1), (2, .symi .u8 2), (3, .symi .u8 3), (4, .symb 4), (5, .symb 91), (6, .int .i64 7)] [])))) (.pick 6 7 (.run (.node 95 (.node 98 (.dead) (.leaf .normal geS1 [] [(0, .symi .u8 0), (1, .symi .u8 1), (2, .symi .u8 2), (3, .symi .u8 3), (4, .symb 4), (5, .symb 103), (6, .int .i64 8)] [])) (.node 99 (.dead) (.leaf .normal geS1 [] [(0, .symi .u8 0), (1, .symi .u8 1), (2, .symi .u8 2), (3, .symi .u8 3), (4, .symb 4), (5, .symb 103), (6, .int .i64 8)] [])))) (.pick 6 8 (.run (.leaf (.exit 0) geS4 [] [(0, .symi .u8 0), (1, .symi .u8 1), (2, .symi .u8 2), (3, .symi .u8 3), (4, .symb 4), (5, .symb 5)] [])) .dead))))))))
set_option maxRecDepth 100000 in
def geCG : List SDef := [.bin .neq (.symb 4) (.symb 5),
  .bin .or (.symi .u8 0) (.symi .u8 3),
  .bin .andNot (.symi .u8 2) (.symi .u8 1),
  .bin .and (.symi .u8 8) (.symi .u8 7),
  .bin .neq (.symi .u8 9) (.int .u8 0),
  .un .not (.symb 10)]

def geCT : LT := .n (.n (.n (.e) 545384585 8 (.bin .andNot (.symi .u8 2) (.symi .u8 1)) (.e)) 909013128 10 (.bin .neq (.symi .u8 9) (.int .u8 0)) (.n (.e) 1010034056 11 (.un .not (.symb 10)) (.e))) 1030091107 7 (.bin .or (.symi .u8 0) (.symi .u8 3)) (.n (.n (.e) 1048611292 6 (.bin .neq (.symb 4) (.symb 5)) (.e)) 1064024182 9 (.bin .and (.symi .u8 8) (.symi .u8 7)) (.e))

def geCW : Sw := .run (.node 6 (.dead) (.node 4 (.node 11 (.dead) (.leaf .normal geS2 [] [(0, .symi .u8 1), (1, .symi .u8 2)] [])) (.leaf .normal geS2 [] [(0, .symi .u8 1), (1, .symi .u8 2)] [])))
set_option maxRecDepth 100000 in
def geEG : List SDef := [.bin .sub (.int .u8 255) (.symi .u8 0),
  .bin .and (.symi .u8 1) (.symi .u8 3),
  .bin .eql (.symi .u8 2) (.symi .u8 4)]

def geET : LT := .n (.n (.e) 158911 3 (.bin .sub (.int .u8 255) (.symi .u8 0)) (.e)) 57349576 4 (.bin .and (.symi .u8 1) (.symi .u8 3)) (.n (.e) 501703499 5 (.bin .eql (.symi .u8 2) (.symi .u8 4)) (.e))

def geEW : Sw := .run (.leaf .ret geSE [] [(0, .symb 5)] [])
def geAX : Ing := { m := 5, ins := geK, G := geAG, T := geAT, hook := trueHook geTru }
theorem geA_ok : okG geAG 5 = true := by kernel_rfl
theorem geA_lt : okLT 5 geAG geAT = true := by kernel_rfl
theorem geA_seg : SegOk Try.prog noTab 158 ((flatC (bodyOf Try.f7)).take 10) geS0 geAX geAW where
  lt := geA_lt
  ok := geA_ok
  hook := fun F => true_hooks rfl ge_tru F
  n0 := rfl
  id := by kernel_rfl
  reck := by kernel_rfl
  tab := rfl
  cuts := rfl
def geBX : Ing := { m := 7, ins := geK1, G := geBG, T := geBT, hook := noHook }
theorem geB_ok : okG geBG 7 = true := by kernel_rfl
theorem geB_lt : okLT 7 geBG geBT = true := by kernel_rfl
theorem geB_seg : SegOk Try.prog noTab 158 ([loopAt 10 (bodyOf Try.f7)]) geS1 geBX geBW where
  lt := geB_lt
  ok := geB_ok
  hook := fun F => no_hooks rfl F
  n0 := rfl
  id := by kernel_rfl
  reck := by kernel_rfl
  tab := rfl
  cuts := rfl
def geCX : Ing := { m := 6, ins := geK4, G := geCG, T := geCT, hook := noHook }
theorem geC_ok : okG geCG 6 = true := by kernel_rfl
theorem geC_lt : okLT 6 geCG geCT = true := by kernel_rfl
theorem geC_seg : SegOk Try.prog noTab 158 (((flatC (bodyOf Try.f7)).drop 11).take 2) geS4 geCX geCW where
  lt := geC_lt
  ok := geC_ok
  hook := fun F => no_hooks rfl F
  n0 := rfl
  id := by kernel_rfl
  reck := by kernel_rfl
  tab := rfl
  cuts := rfl
def geEX : Ing := { m := 3, ins := [some .u8, some .u8, some .u8], G := geEG, T := geET, hook := noHook }
theorem geE_ok : okG geEG 3 = true := by kernel_rfl
theorem geE_lt : okLT 3 geEG geET = true := by kernel_rfl
theorem geE_seg : SegOk Try.prog noTab 158 ((flatC (bodyOf Try.f7)).drop 17) geS3 geEX geEW where
  lt := geE_lt
  ok := geE_ok
  hook := fun F => no_hooks rfl F
  n0 := rfl
  id := by kernel_rfl
  reck := by kernel_rfl
  tab := rfl
  cuts := rfl

/-! ### What rises: one of 256 numbers -/

def geDG : List SDef := [.bin .andNot (.symi .u8 1) (.symi .u8 0)]
def geDT : LT := .n (.e) 101030704 2 (.bin .andNot (.symi .u8 1) (.symi .u8 0)) (.e)
def geDX : Ing := { m := 2, ins := [some .u8, some .u8], G := geDG, T := geDT }
def geDL (k : Nat) : Sw := .run (.leaf .normal geS3 [] [(0, .symi .u8 0), (1, .symi .u8 1), (2, .int .u8 k)] [])
def geDWs : Nat → Nat → Sw
  | _, 0 => .dead
  | k, n + 1 => .pick 2 k (geDL k) (geDWs (k + 1) n)
def nons : Nat → List Fact
  | 0 => []
  | k + 1 => .non 2 k :: nons k
def allIn (f : Nat → Bool) : Nat → Nat → Bool
  | _, 0 => true
  | k, n + 1 => f k && allIn f (k + 1) n
theorem allIn_app (f : Nat → Bool) : ∀ (n k m : Nat), allIn f k n = true → allIn f (k + n) m = true → allIn f k (n + m) = true
  | 0, k, m, _, h => by simpa using h
  | n + 1, k, m, h1, h2 => by
    simp only [allIn, Bool.and_eq_true] at h1
    have := allIn_app f n (k + 1) m h1.2 (by rwa [show k + 1 + n = k + (n + 1) by omega])
    rw [show n + 1 + m = (n + m) + 1 by omega]
    simp only [allIn, Bool.and_eq_true]
    exact ⟨h1.1, this⟩
def geDOk (run : List Fact → Tree (Ex × Tm × Hp)) (k : Nat) : Bool := okSw run (geDL k) (.isn 2 k :: nons k)
theorem geD_all {run : List Fact → Tree (Ex × Tm × Hp)} : ∀ (n k : Nat), allIn (geDOk run) k n = true → okSw run (geDWs k n) (nons k) = true
  | 0, _, _ => rfl
  | n + 1, k, h => by
    simp only [allIn, Bool.and_eq_true] at h
    simp only [geDWs, okSw, Bool.and_eq_true]
    exact ⟨h.1, geD_all n (k + 1) h.2⟩
theorem geD_r0 : allIn (geDOk (runOf Try.prog geDX (((flatC (bodyOf Try.f7)).drop 13).take 4) geS2 158)) 0 16 = true := by kernel_rfl
theorem geD_r1 : allIn (geDOk (runOf Try.prog geDX (((flatC (bodyOf Try.f7)).drop 13).take 4) geS2 158)) 16 16 = true := by kernel_rfl
theorem geD_r2 : allIn (geDOk (runOf Try.prog geDX (((flatC (bodyOf Try.f7)).drop 13).take 4) geS2 158)) 32 16 = true := by kernel_rfl
theorem geD_r3 : allIn (geDOk (runOf Try.prog geDX (((flatC (bodyOf Try.f7)).drop 13).take 4) geS2 158)) 48 16 = true := by kernel_rfl
theorem geD_r4 : allIn (geDOk (runOf Try.prog geDX (((flatC (bodyOf Try.f7)).drop 13).take 4) geS2 158)) 64 16 = true := by kernel_rfl
theorem geD_r5 : allIn (geDOk (runOf Try.prog geDX (((flatC (bodyOf Try.f7)).drop 13).take 4) geS2 158)) 80 16 = true := by kernel_rfl
theorem geD_r6 : allIn (geDOk (runOf Try.prog geDX (((flatC (bodyOf Try.f7)).drop 13).take 4) geS2 158)) 96 16 = true := by kernel_rfl
theorem geD_r7 : allIn (geDOk (runOf Try.prog geDX (((flatC (bodyOf Try.f7)).drop 13).take 4) geS2 158)) 112 16 = true := by kernel_rfl
theorem geD_r8 : allIn (geDOk (runOf Try.prog geDX (((flatC (bodyOf Try.f7)).drop 13).take 4) geS2 158)) 128 16 = true := by kernel_rfl
theorem geD_r9 : allIn (geDOk (runOf Try.prog geDX (((flatC (bodyOf Try.f7)).drop 13).take 4) geS2 158)) 144 16 = true := by kernel_rfl
theorem geD_r10 : allIn (geDOk (runOf Try.prog geDX (((flatC (bodyOf Try.f7)).drop 13).take 4) geS2 158)) 160 16 = true := by kernel_rfl
theorem geD_r11 : allIn (geDOk (runOf Try.prog geDX (((flatC (bodyOf Try.f7)).drop 13).take 4) geS2 158)) 176 16 = true := by kernel_rfl
theorem geD_r12 : allIn (geDOk (runOf Try.prog geDX (((flatC (bodyOf Try.f7)).drop 13).take 4) geS2 158)) 192 16 = true := by kernel_rfl
theorem geD_r13 : allIn (geDOk (runOf Try.prog geDX (((flatC (bodyOf Try.f7)).drop 13).take 4) geS2 158)) 208 16 = true := by kernel_rfl
theorem geD_r14 : allIn (geDOk (runOf Try.prog geDX (((flatC (bodyOf Try.f7)).drop 13).take 4) geS2 158)) 224 16 = true := by kernel_rfl
theorem geD_r15 : allIn (geDOk (runOf Try.prog geDX (((flatC (bodyOf Try.f7)).drop 13).take 4) geS2 158)) 240 16 = true := by kernel_rfl
theorem geD_reck : okSw (runOf Try.prog geDX (((flatC (bodyOf Try.f7)).drop 13).take 4) geS2 158) (geDWs 0 256) [] = true := by
  refine geD_all 256 0 ?_
  refine allIn_app (geDOk _) 16 0 240 geD_r0 ?_
  refine allIn_app (geDOk _) 16 16 224 geD_r1 ?_
  refine allIn_app (geDOk _) 16 32 208 geD_r2 ?_
  refine allIn_app (geDOk _) 16 48 192 geD_r3 ?_
  refine allIn_app (geDOk _) 16 64 176 geD_r4 ?_
  refine allIn_app (geDOk _) 16 80 160 geD_r5 ?_
  refine allIn_app (geDOk _) 16 96 144 geD_r6 ?_
  refine allIn_app (geDOk _) 16 112 128 geD_r7 ?_
  refine allIn_app (geDOk _) 16 128 112 geD_r8 ?_
  refine allIn_app (geDOk _) 16 144 96 geD_r9 ?_
  refine allIn_app (geDOk _) 16 160 80 geD_r10 ?_
  refine allIn_app (geDOk _) 16 176 64 geD_r11 ?_
  refine allIn_app (geDOk _) 16 192 48 geD_r12 ?_
  refine allIn_app (geDOk _) 16 208 32 geD_r13 ?_
  refine allIn_app (geDOk _) 16 224 16 geD_r14 ?_
  exact geD_r15
theorem geD_ok : okG geDG 2 = true := by kernel_rfl
theorem geD_lt : okLT 2 geDG geDT = true := by kernel_rfl
theorem geD_seg : SegOk Try.prog noTab 158 (((flatC (bodyOf Try.f7)).drop 13).take 4) geS2 geDX (geDWs 0 256) where
  lt := geD_lt
  ok := geD_ok
  hook := fun F => no_hooks rfl F
  n0 := rfl
  id := by kernel_rfl
  reck := geD_reck
  tab := rfl
  cuts := rfl

/-! ### Bits -/

def bv (n : Int) : BitVec 8 := BitVec.ofInt 8 n
def some8 (x : BitVec 8) : Nat → Bool
  | 0 => false
  | k + 1 => some8 x k || x.getLsbD k
theorem all8 {p : BitVec 8 → Prop} (h : ∀ i : Fin 256, p (BitVec.ofFin i)) (x : BitVec 8) : p x := h x.toFin
theorem some8_all (x : BitVec 8) : some8 x 8 = (x != 0#8) := all8 (p := fun x => some8 x 8 = (x != 0#8)) (by decide +kernel) x
theorem w8 (x : BitVec 8) : IntKind.u8.wrap (x.toNat : Int) = x.toNat := by
  have := x.isLt
  simp only [IntKind.wrap, IntKind.bits, IntKind.signed]
  simp; omega
theorem bv_nat (x : BitVec 8) : bv (x.toNat : Int) = x := by simp [bv]
theorem bv_w (x : BitVec 8) : bv (IntKind.u8.wrap (x.toNat : Int)) = x := by rw [w8, bv_nat]
theorem ne0 (x : BitVec 8) : (IntKind.u8.wrap (x.toNat : Int) != 0) = (x != 0#8) := by
  rw [w8, Bool.eq_iff_iff]
  simp only [bne_iff_ne, ne_eq]
  constructor
  · intro h h2; subst h2; exact h rfl
  · intro h h2; apply h; apply BitVec.eq_of_toNat_eq; simpa using h2
theorem eq0 (x : BitVec 8) : (IntKind.u8.wrap (x.toNat : Int) == 0) = !(x != 0#8) := by
  have := ne0 x
  rw [bne, Bool.not_eq_eq_eq_not] at this
  rw [this]
theorem bit0 (x : BitVec 8) : (x &&& bv 1 != 0#8) = x.getLsbD 0 := all8 (p := fun x => (x &&& bv 1 != 0#8) = x.getLsbD 0) (by decide +kernel) x
theorem bit1 (x : BitVec 8) : (x &&& bv 2 != 0#8) = x.getLsbD 1 := all8 (p := fun x => (x &&& bv 2 != 0#8) = x.getLsbD 1) (by decide +kernel) x
theorem bit2 (x : BitVec 8) : (x &&& bv 4 != 0#8) = x.getLsbD 2 := all8 (p := fun x => (x &&& bv 4 != 0#8) = x.getLsbD 2) (by decide +kernel) x
theorem bit3 (x : BitVec 8) : (x &&& bv 8 != 0#8) = x.getLsbD 3 := all8 (p := fun x => (x &&& bv 8 != 0#8) = x.getLsbD 3) (by decide +kernel) x
theorem bit4 (x : BitVec 8) : (x &&& bv 16 != 0#8) = x.getLsbD 4 := all8 (p := fun x => (x &&& bv 16 != 0#8) = x.getLsbD 4) (by decide +kernel) x
theorem bit5 (x : BitVec 8) : (x &&& bv 32 != 0#8) = x.getLsbD 5 := all8 (p := fun x => (x &&& bv 32 != 0#8) = x.getLsbD 5) (by decide +kernel) x
theorem bit6 (x : BitVec 8) : (x &&& bv 64 != 0#8) = x.getLsbD 6 := all8 (p := fun x => (x &&& bv 64 != 0#8) = x.getLsbD 6) (by decide +kernel) x
theorem bit7 (x : BitVec 8) : (x &&& bv 128 != 0#8) = x.getLsbD 7 := all8 (p := fun x => (x &&& bv 128 != 0#8) = x.getLsbD 7) (by decide +kernel) x
theorem inv255 (n : Int) (h0 : 0 ≤ n) (h1 : n < 256) : bv (IntKind.u8.wrap (255 - n)) = ~~~ bv n := by
  have h : ∀ i : Fin 256, bv (IntKind.u8.wrap (255 - (i.val : Int))) = ~~~ bv (i.val : Int) := by decide +kernel
  have := h ⟨n.toNat, by omega⟩
  simpa [Int.toNat_of_nonneg h0] using this
theorem u8_range {n : Int} (h : IntKind.u8.wrap n = n) : 0 ≤ n ∧ n < 256 := by
  simp [IntKind.wrap, IntKind.bits, IntKind.signed] at h; omega
theorem getL_and (x y : BitVec 8) (k : Nat) : (x &&& y).getLsbD k = (x.getLsbD k && y.getLsbD k) := by simp
theorem getL_not (x : BitVec 8) (k : Nat) (h : k < 8) : (~~~x).getLsbD k = !x.getLsbD k := by simp [h]

/-- what rises, of what is looked at -/
def ris (i v : Int) : BitVec 8 := bv v &&& ~~~ bv i
def geJ (σ : Sig) : Prop := 0 ≤ σ.ival 6 ∧ σ.ival 6 ≤ 8 ∧ σ.bval 4 = (ris (σ.ival 1) (σ.ival 2) &&& bv (σ.ival 0) != 0#8) ∧ σ.bval 5 = some8 (ris (σ.ival 1) (σ.ival 2) &&& bv (σ.ival 0)) (σ.ival 6).toNat
def geJ4 (σ : Sig) : Prop := σ.bval 4 = (ris (σ.ival 1) (σ.ival 2) &&& bv (σ.ival 0) != 0#8) ∧ σ.bval 5 = σ.bval 4
def geJ3 (σ : Sig) : Prop := σ.ival 2 = IntKind.u8.wrap ((ris (σ.ival 0) (σ.ival 1)).toNat : Int)
theorem geJ_agree (σ τ : Sig) (ag : Agree 7 σ τ) (h : geJ σ) : geJ τ := by
  unfold geJ at h ⊢
  rw [← (ag.val 0 (by decide)).1, ← (ag.val 1 (by decide)).1, ← (ag.val 2 (by decide)).1, ← (ag.val 6 (by decide)).1, ← (ag.val 4 (by decide)).2.1, ← (ag.val 5 (by decide)).2.1]
  exact h
theorem geJ4_agree (σ τ : Sig) (ag : Agree 6 σ τ) (h : geJ4 σ) : geJ4 τ := by
  unfold geJ4 at h ⊢
  rw [← (ag.val 0 (by decide)).1, ← (ag.val 1 (by decide)).1, ← (ag.val 2 (by decide)).1, ← (ag.val 4 (by decide)).2.1, ← (ag.val 5 (by decide)).2.1]
  exact h
theorem geJ3_agree (σ τ : Sig) (ag : Agree 3 σ τ) (h : geJ3 σ) : geJ3 τ := by
  unfold geJ3 at h ⊢
  rw [← (ag.val 0 (by decide)).1, ← (ag.val 1 (by decide)).1, ← (ag.val 2 (by decide)).1]
  exact h

set_option maxRecDepth 100000 in
theorem geB_0 {W0 : World} {Z : Exit → Act → World → Prop} (τ : Sig) (e : Eqs τ 7 geBG) (ht : τ.tab = noTab) (hin : InsOk τ 7 geK1) (hj : geJ τ) :
    segsW τ (fun x s σ2 => (x = .normal ∧ s = geS1 ∧ InsOk σ2 7 geK1 ∧ geJ σ2 ∧ σ2.tab = noTab ∧ (fun σ : Sig => (8 - σ.ival 6).toNat) σ2 < (fun σ : Sig => (8 - σ.ival 6).toNat) τ) ∨ (x = .exit 0 ∧ s = geS4 ∧ InsOk σ2 6 geK4 ∧ geJ4 σ2 ∧ σ2.tab = noTab) ∨ (x = .ret ∧ EndZ noTab 158 W0 Z x s σ2)) (.run (.node 11 (.node 14 (.dead) (.leaf .normal geS1 [] [(0, .symi .u8 0), (1, .symi .u8 1), (2, .symi .u8 2), (3, .symi .u8 3), (4, .symb 4), (5, .symb 19), (6, .int .i64 1)] [])) (.node 15 (.dead) (.leaf .normal geS1 [] [(0, .symi .u8 0), (1, .symi .u8 1), (2, .symi .u8 2), (3, .symi .u8 3), (4, .symb 4), (5, .symb 19), (6, .int .i64 1)] [])))) [.isn 6 0] := by
  have e7 : τ.ival 7 = IntKind.u8.wrap (BitVec.ofInt IntKind.u8.bits (τ.ival 2) &&& ~~~BitVec.ofInt IntKind.u8.bits (τ.ival 1)).toNat := eqI (e.at 0 _ rfl rfl) rfl
  have e8 : τ.ival 8 = IntKind.u8.wrap (BitVec.ofInt IntKind.u8.bits (τ.ival 7) &&& BitVec.ofInt IntKind.u8.bits (1)).toNat := eqI (e.at 1 _ rfl rfl) rfl
  have e9 : τ.bval 9 = (τ.ival 8 != 0) := eqB (e.at 2 _ rfl rfl) rfl
  have e10 : τ.ival 10 = IntKind.u8.wrap (BitVec.ofInt IntKind.u8.bits (τ.ival 1) &&& BitVec.ofInt IntKind.u8.bits (1)).toNat := eqI (e.at 3 _ rfl rfl) rfl
  have e11 : τ.bval 11 = (τ.ival 10 == 0) := eqB (e.at 4 _ rfl rfl) rfl
  have e12 : τ.ival 12 = IntKind.u8.wrap (BitVec.ofInt IntKind.u8.bits (τ.ival 2) &&& BitVec.ofInt IntKind.u8.bits (1)).toNat := eqI (e.at 5 _ rfl rfl) rfl
  have e13 : τ.bval 13 = (τ.ival 12 != 0) := eqB (e.at 6 _ rfl rfl) rfl
  have e14 : τ.bval 14 = (τ.bval 9 != τ.bval 13) := eqB (e.at 7 _ rfl rfl) rfl
  have e15 : τ.bval 15 = (τ.bval 9 != false) := eqB (e.at 8 _ rfl rfl) rfl
  have e16 : τ.ival 16 = IntKind.u8.wrap (BitVec.ofInt IntKind.u8.bits (τ.ival 0) &&& BitVec.ofInt IntKind.u8.bits (1)).toNat := eqI (e.at 9 _ rfl rfl) rfl
  have e17 : τ.bval 17 = (τ.ival 16 != 0) := eqB (e.at 10 _ rfl rfl) rfl
  have e18 : τ.bval 18 = (bif τ.bval 17 then τ.bval 9 else false) := eqIteB (e.at 11 _ rfl rfl) rfl rfl rfl
  have e19 : τ.bval 19 = (bif τ.bval 5 then true else τ.bval 18) := eqIteB (e.at 12 _ rfl rfl) rfl rfl rfl
  obtain ⟨j0, j8, j4, j5⟩ := hj
  replace e7 : bv (τ.ival 7) = ris (τ.ival 1) (τ.ival 2) := by rw [e7]; exact bv_w _
  replace e9 : τ.bval 9 = ((bv (τ.ival 2)).getLsbD 0 && !(bv (τ.ival 1)).getLsbD 0) := by
    rw [e9, e8]
    show (IntKind.u8.wrap (((bv (τ.ival 7)) &&& bv 1 : BitVec 8).toNat : Int) != 0) = _
    rw [ne0, bit0, e7, ris, getL_and, getL_not _ _ (by decide)]
  replace e11 : τ.bval 11 = !(bv (τ.ival 1)).getLsbD 0 := by
    rw [e11, e10]
    show (IntKind.u8.wrap (((bv (τ.ival 1)) &&& bv 1 : BitVec 8).toNat : Int) == 0) = _
    rw [eq0, bit0]
  replace e13 : τ.bval 13 = (bv (τ.ival 2)).getLsbD 0 := by
    rw [e13, e12]
    show (IntKind.u8.wrap (((bv (τ.ival 2)) &&& bv 1 : BitVec 8).toNat : Int) != 0) = _
    rw [ne0, bit0]
  replace e17 : τ.bval 17 = (bv (τ.ival 0)).getLsbD 0 := by
    rw [e17, e16]
    show (IntKind.u8.wrap (((bv (τ.ival 0)) &&& bv 1 : BitVec 8).toNat : Int) != 0) = _
    rw [ne0, bit0]
  have hJ : τ.ival 6 = 0 → τ.bval 19 = some8 (ris (τ.ival 1) (τ.ival 2) &&& bv (τ.ival 0)) 1 := by
    intro h6
    rw [h6] at j5
    rw [e19, e18, e17, e9]
    show _ = (some8 _ 0 || _)
    rw [j5]
    rw [getL_and, ris, getL_and, getL_not _ _ (by decide)]
    show (bif some8 _ 0 then true else _) = _
    cases some8 (bv (τ.ival 2) &&& ~~~bv (τ.ival 1) &&& bv (τ.ival 0)) 0 <;> cases (bv (τ.ival 2)).getLsbD 0 <;> cases (bv (τ.ival 1)).getLsbD 0 <;> cases (bv (τ.ival 0)).getLsbD 0 <;> rfl
  refine ⟨⟨fun hF => ?_, fun hF => ?_⟩, ⟨fun hF => ?_, fun hF => ?_⟩⟩
  · have h1 : τ.bval 14 = true := hF.1
    have h2 : τ.bval 11 = true := hF.2.1
    rw [e14, e9, e13] at h1
    rw [e11] at h2
    rw [h2] at h1
    simp at h1
  · have h6 : τ.ival 6 = 0 := hF.2.2.1
    refine .inl ⟨rfl, rfl, insOk_asg e hin 12 (by kernel_rfl), ⟨by show (0 : Int) ≤ 1; decide, by show (1 : Int) ≤ 8; decide, j4, hJ h6⟩, ht, ?_⟩
    show ((8 : Int) - 1).toNat < ((8 : Int) - τ.ival 6).toNat
    rw [h6]; decide
  · have h1 : τ.bval 15 = true := hF.1
    have h2 : τ.bval 11 = false := hF.2.1
    rw [e15, e9] at h1
    rw [e11] at h2
    rw [h2] at h1
    simp at h1
  · have h6 : τ.ival 6 = 0 := hF.2.2.1
    refine .inl ⟨rfl, rfl, insOk_asg e hin 12 (by kernel_rfl), ⟨by show (0 : Int) ≤ 1; decide, by show (1 : Int) ≤ 8; decide, j4, hJ h6⟩, ht, ?_⟩
    show ((8 : Int) - 1).toNat < ((8 : Int) - τ.ival 6).toNat
    rw [h6]; decide

set_option maxRecDepth 100000 in
theorem geB_1 {W0 : World} {Z : Exit → Act → World → Prop} (τ : Sig) (e : Eqs τ 7 geBG) (ht : τ.tab = noTab) (hin : InsOk τ 7 geK1) (hj : geJ τ) :
    segsW τ (fun x s σ2 => (x = .normal ∧ s = geS1 ∧ InsOk σ2 7 geK1 ∧ geJ σ2 ∧ σ2.tab = noTab ∧ (fun σ : Sig => (8 - σ.ival 6).toNat) σ2 < (fun σ : Sig => (8 - σ.ival 6).toNat) τ) ∨ (x = .exit 0 ∧ s = geS4 ∧ InsOk σ2 6 geK4 ∧ geJ4 σ2 ∧ σ2.tab = noTab) ∨ (x = .ret ∧ EndZ noTab 158 W0 Z x s σ2)) (.run (.node 23 (.node 26 (.dead) (.leaf .normal geS1 [] [(0, .symi .u8 0), (1, .symi .u8 1), (2, .symi .u8 2), (3, .symi .u8 3), (4, .symb 4), (5, .symb 31), (6, .int .i64 2)] [])) (.node 27 (.dead) (.leaf .normal geS1 [] [(0, .symi .u8 0), (1, .symi .u8 1), (2, .symi .u8 2), (3, .symi .u8 3), (4, .symb 4), (5, .symb 31), (6, .int .i64 2)] [])))) [.isn 6 1, .non 6 0] := by
  have e7 : τ.ival 7 = IntKind.u8.wrap (BitVec.ofInt IntKind.u8.bits (τ.ival 2) &&& ~~~BitVec.ofInt IntKind.u8.bits (τ.ival 1)).toNat := eqI (e.at 0 _ rfl rfl) rfl
  have e20 : τ.ival 20 = IntKind.u8.wrap (BitVec.ofInt IntKind.u8.bits (τ.ival 7) &&& BitVec.ofInt IntKind.u8.bits (2)).toNat := eqI (e.at 13 _ rfl rfl) rfl
  have e21 : τ.bval 21 = (τ.ival 20 != 0) := eqB (e.at 14 _ rfl rfl) rfl
  have e22 : τ.ival 22 = IntKind.u8.wrap (BitVec.ofInt IntKind.u8.bits (τ.ival 1) &&& BitVec.ofInt IntKind.u8.bits (2)).toNat := eqI (e.at 15 _ rfl rfl) rfl
  have e23 : τ.bval 23 = (τ.ival 22 == 0) := eqB (e.at 16 _ rfl rfl) rfl
  have e24 : τ.ival 24 = IntKind.u8.wrap (BitVec.ofInt IntKind.u8.bits (τ.ival 2) &&& BitVec.ofInt IntKind.u8.bits (2)).toNat := eqI (e.at 17 _ rfl rfl) rfl
  have e25 : τ.bval 25 = (τ.ival 24 != 0) := eqB (e.at 18 _ rfl rfl) rfl
  have e26 : τ.bval 26 = (τ.bval 21 != τ.bval 25) := eqB (e.at 19 _ rfl rfl) rfl
  have e27 : τ.bval 27 = (τ.bval 21 != false) := eqB (e.at 20 _ rfl rfl) rfl
  have e28 : τ.ival 28 = IntKind.u8.wrap (BitVec.ofInt IntKind.u8.bits (τ.ival 0) &&& BitVec.ofInt IntKind.u8.bits (2)).toNat := eqI (e.at 21 _ rfl rfl) rfl
  have e29 : τ.bval 29 = (τ.ival 28 != 0) := eqB (e.at 22 _ rfl rfl) rfl
  have e30 : τ.bval 30 = (bif τ.bval 29 then τ.bval 21 else false) := eqIteB (e.at 23 _ rfl rfl) rfl rfl rfl
  have e31 : τ.bval 31 = (bif τ.bval 5 then true else τ.bval 30) := eqIteB (e.at 24 _ rfl rfl) rfl rfl rfl
  obtain ⟨j0, j8, j4, j5⟩ := hj
  replace e7 : bv (τ.ival 7) = ris (τ.ival 1) (τ.ival 2) := by rw [e7]; exact bv_w _
  replace e21 : τ.bval 21 = ((bv (τ.ival 2)).getLsbD 1 && !(bv (τ.ival 1)).getLsbD 1) := by
    rw [e21, e20]
    show (IntKind.u8.wrap (((bv (τ.ival 7)) &&& bv 2 : BitVec 8).toNat : Int) != 0) = _
    rw [ne0, bit1, e7, ris, getL_and, getL_not _ _ (by decide)]
  replace e23 : τ.bval 23 = !(bv (τ.ival 1)).getLsbD 1 := by
    rw [e23, e22]
    show (IntKind.u8.wrap (((bv (τ.ival 1)) &&& bv 2 : BitVec 8).toNat : Int) == 0) = _
    rw [eq0, bit1]
  replace e25 : τ.bval 25 = (bv (τ.ival 2)).getLsbD 1 := by
    rw [e25, e24]
    show (IntKind.u8.wrap (((bv (τ.ival 2)) &&& bv 2 : BitVec 8).toNat : Int) != 0) = _
    rw [ne0, bit1]
  replace e29 : τ.bval 29 = (bv (τ.ival 0)).getLsbD 1 := by
    rw [e29, e28]
    show (IntKind.u8.wrap (((bv (τ.ival 0)) &&& bv 2 : BitVec 8).toNat : Int) != 0) = _
    rw [ne0, bit1]
  have hJ : τ.ival 6 = 1 → τ.bval 31 = some8 (ris (τ.ival 1) (τ.ival 2) &&& bv (τ.ival 0)) 2 := by
    intro h6
    rw [h6] at j5
    rw [e31, e30, e29, e21]
    show _ = (some8 _ 1 || _)
    rw [j5]
    rw [getL_and, ris, getL_and, getL_not _ _ (by decide)]
    show (bif some8 _ 1 then true else _) = _
    cases some8 (bv (τ.ival 2) &&& ~~~bv (τ.ival 1) &&& bv (τ.ival 0)) 1 <;> cases (bv (τ.ival 2)).getLsbD 1 <;> cases (bv (τ.ival 1)).getLsbD 1 <;> cases (bv (τ.ival 0)).getLsbD 1 <;> rfl
  refine ⟨⟨fun hF => ?_, fun hF => ?_⟩, ⟨fun hF => ?_, fun hF => ?_⟩⟩
  · have h1 : τ.bval 26 = true := hF.1
    have h2 : τ.bval 23 = true := hF.2.1
    rw [e26, e21, e25] at h1
    rw [e23] at h2
    rw [h2] at h1
    simp at h1
  · have h6 : τ.ival 6 = 1 := hF.2.2.1
    refine .inl ⟨rfl, rfl, insOk_asg e hin 12 (by kernel_rfl), ⟨by show (0 : Int) ≤ 2; decide, by show (2 : Int) ≤ 8; decide, j4, hJ h6⟩, ht, ?_⟩
    show ((8 : Int) - 2).toNat < ((8 : Int) - τ.ival 6).toNat
    rw [h6]; decide
  · have h1 : τ.bval 27 = true := hF.1
    have h2 : τ.bval 23 = false := hF.2.1
    rw [e27, e21] at h1
    rw [e23] at h2
    rw [h2] at h1
    simp at h1
  · have h6 : τ.ival 6 = 1 := hF.2.2.1
    refine .inl ⟨rfl, rfl, insOk_asg e hin 12 (by kernel_rfl), ⟨by show (0 : Int) ≤ 2; decide, by show (2 : Int) ≤ 8; decide, j4, hJ h6⟩, ht, ?_⟩
    show ((8 : Int) - 2).toNat < ((8 : Int) - τ.ival 6).toNat
    rw [h6]; decide

set_option maxRecDepth 100000 in
theorem geB_2 {W0 : World} {Z : Exit → Act → World → Prop} (τ : Sig) (e : Eqs τ 7 geBG) (ht : τ.tab = noTab) (hin : InsOk τ 7 geK1) (hj : geJ τ) :
    segsW τ (fun x s σ2 => (x = .normal ∧ s = geS1 ∧ InsOk σ2 7 geK1 ∧ geJ σ2 ∧ σ2.tab = noTab ∧ (fun σ : Sig => (8 - σ.ival 6).toNat) σ2 < (fun σ : Sig => (8 - σ.ival 6).toNat) τ) ∨ (x = .exit 0 ∧ s = geS4 ∧ InsOk σ2 6 geK4 ∧ geJ4 σ2 ∧ σ2.tab = noTab) ∨ (x = .ret ∧ EndZ noTab 158 W0 Z x s σ2)) (.run (.node 35 (.node 38 (.dead) (.leaf .normal geS1 [] [(0, .symi .u8 0), (1, .symi .u8 1), (2, .symi .u8 2), (3, .symi .u8 3), (4, .symb 4), (5, .symb 43), (6, .int .i64 3)] [])) (.node 39 (.dead) (.leaf .normal geS1 [] [(0, .symi .u8 0), (1, .symi .u8 1), (2, .symi .u8 2), (3, .symi .u8 3), (4, .symb 4), (5, .symb 43), (6, .int .i64 3)] [])))) [.isn 6 2, .non 6 1, .non 6 0] := by
  have e7 : τ.ival 7 = IntKind.u8.wrap (BitVec.ofInt IntKind.u8.bits (τ.ival 2) &&& ~~~BitVec.ofInt IntKind.u8.bits (τ.ival 1)).toNat := eqI (e.at 0 _ rfl rfl) rfl
  have e32 : τ.ival 32 = IntKind.u8.wrap (BitVec.ofInt IntKind.u8.bits (τ.ival 7) &&& BitVec.ofInt IntKind.u8.bits (4)).toNat := eqI (e.at 25 _ rfl rfl) rfl
  have e33 : τ.bval 33 = (τ.ival 32 != 0) := eqB (e.at 26 _ rfl rfl) rfl
  have e34 : τ.ival 34 = IntKind.u8.wrap (BitVec.ofInt IntKind.u8.bits (τ.ival 1) &&& BitVec.ofInt IntKind.u8.bits (4)).toNat := eqI (e.at 27 _ rfl rfl) rfl
  have e35 : τ.bval 35 = (τ.ival 34 == 0) := eqB (e.at 28 _ rfl rfl) rfl
  have e36 : τ.ival 36 = IntKind.u8.wrap (BitVec.ofInt IntKind.u8.bits (τ.ival 2) &&& BitVec.ofInt IntKind.u8.bits (4)).toNat := eqI (e.at 29 _ rfl rfl) rfl
  have e37 : τ.bval 37 = (τ.ival 36 != 0) := eqB (e.at 30 _ rfl rfl) rfl
  have e38 : τ.bval 38 = (τ.bval 33 != τ.bval 37) := eqB (e.at 31 _ rfl rfl) rfl
  have e39 : τ.bval 39 = (τ.bval 33 != false) := eqB (e.at 32 _ rfl rfl) rfl
  have e40 : τ.ival 40 = IntKind.u8.wrap (BitVec.ofInt IntKind.u8.bits (τ.ival 0) &&& BitVec.ofInt IntKind.u8.bits (4)).toNat := eqI (e.at 33 _ rfl rfl) rfl
  have e41 : τ.bval 41 = (τ.ival 40 != 0) := eqB (e.at 34 _ rfl rfl) rfl
  have e42 : τ.bval 42 = (bif τ.bval 41 then τ.bval 33 else false) := eqIteB (e.at 35 _ rfl rfl) rfl rfl rfl
  have e43 : τ.bval 43 = (bif τ.bval 5 then true else τ.bval 42) := eqIteB (e.at 36 _ rfl rfl) rfl rfl rfl
  obtain ⟨j0, j8, j4, j5⟩ := hj
  replace e7 : bv (τ.ival 7) = ris (τ.ival 1) (τ.ival 2) := by rw [e7]; exact bv_w _
  replace e33 : τ.bval 33 = ((bv (τ.ival 2)).getLsbD 2 && !(bv (τ.ival 1)).getLsbD 2) := by
    rw [e33, e32]
    show (IntKind.u8.wrap (((bv (τ.ival 7)) &&& bv 4 : BitVec 8).toNat : Int) != 0) = _
    rw [ne0, bit2, e7, ris, getL_and, getL_not _ _ (by decide)]
  replace e35 : τ.bval 35 = !(bv (τ.ival 1)).getLsbD 2 := by
    rw [e35, e34]
    show (IntKind.u8.wrap (((bv (τ.ival 1)) &&& bv 4 : BitVec 8).toNat : Int) == 0) = _
    rw [eq0, bit2]
  replace e37 : τ.bval 37 = (bv (τ.ival 2)).getLsbD 2 := by
    rw [e37, e36]
    show (IntKind.u8.wrap (((bv (τ.ival 2)) &&& bv 4 : BitVec 8).toNat : Int) != 0) = _
    rw [ne0, bit2]
  replace e41 : τ.bval 41 = (bv (τ.ival 0)).getLsbD 2 := by
    rw [e41, e40]
    show (IntKind.u8.wrap (((bv (τ.ival 0)) &&& bv 4 : BitVec 8).toNat : Int) != 0) = _
    rw [ne0, bit2]
  have hJ : τ.ival 6 = 2 → τ.bval 43 = some8 (ris (τ.ival 1) (τ.ival 2) &&& bv (τ.ival 0)) 3 := by
    intro h6
    rw [h6] at j5
    rw [e43, e42, e41, e33]
    show _ = (some8 _ 2 || _)
    rw [j5]
    rw [getL_and, ris, getL_and, getL_not _ _ (by decide)]
    show (bif some8 _ 2 then true else _) = _
    cases some8 (bv (τ.ival 2) &&& ~~~bv (τ.ival 1) &&& bv (τ.ival 0)) 2 <;> cases (bv (τ.ival 2)).getLsbD 2 <;> cases (bv (τ.ival 1)).getLsbD 2 <;> cases (bv (τ.ival 0)).getLsbD 2 <;> rfl
  refine ⟨⟨fun hF => ?_, fun hF => ?_⟩, ⟨fun hF => ?_, fun hF => ?_⟩⟩
  · have h1 : τ.bval 38 = true := hF.1
    have h2 : τ.bval 35 = true := hF.2.1
    rw [e38, e33, e37] at h1
    rw [e35] at h2
    rw [h2] at h1
    simp at h1
  · have h6 : τ.ival 6 = 2 := hF.2.2.1
    refine .inl ⟨rfl, rfl, insOk_asg e hin 12 (by kernel_rfl), ⟨by show (0 : Int) ≤ 3; decide, by show (3 : Int) ≤ 8; decide, j4, hJ h6⟩, ht, ?_⟩
    show ((8 : Int) - 3).toNat < ((8 : Int) - τ.ival 6).toNat
    rw [h6]; decide
  · have h1 : τ.bval 39 = true := hF.1
    have h2 : τ.bval 35 = false := hF.2.1
    rw [e39, e33] at h1
    rw [e35] at h2
    rw [h2] at h1
    simp at h1
  · have h6 : τ.ival 6 = 2 := hF.2.2.1
    refine .inl ⟨rfl, rfl, insOk_asg e hin 12 (by kernel_rfl), ⟨by show (0 : Int) ≤ 3; decide, by show (3 : Int) ≤ 8; decide, j4, hJ h6⟩, ht, ?_⟩
    show ((8 : Int) - 3).toNat < ((8 : Int) - τ.ival 6).toNat
    rw [h6]; decide

set_option maxRecDepth 100000 in
theorem geB_3 {W0 : World} {Z : Exit → Act → World → Prop} (τ : Sig) (e : Eqs τ 7 geBG) (ht : τ.tab = noTab) (hin : InsOk τ 7 geK1) (hj : geJ τ) :
    segsW τ (fun x s σ2 => (x = .normal ∧ s = geS1 ∧ InsOk σ2 7 geK1 ∧ geJ σ2 ∧ σ2.tab = noTab ∧ (fun σ : Sig => (8 - σ.ival 6).toNat) σ2 < (fun σ : Sig => (8 - σ.ival 6).toNat) τ) ∨ (x = .exit 0 ∧ s = geS4 ∧ InsOk σ2 6 geK4 ∧ geJ4 σ2 ∧ σ2.tab = noTab) ∨ (x = .ret ∧ EndZ noTab 158 W0 Z x s σ2)) (.run (.node 47 (.node 50 (.dead) (.leaf .normal geS1 [] [(0, .symi .u8 0), (1, .symi .u8 1), (2, .symi .u8 2), (3, .symi .u8 3), (4, .symb 4), (5, .symb 55), (6, .int .i64 4)] [])) (.node 51 (.dead) (.leaf .normal geS1 [] [(0, .symi .u8 0), (1, .symi .u8 1), (2, .symi .u8 2), (3, .symi .u8 3), (4, .symb 4), (5, .symb 55), (6, .int .i64 4)] [])))) [.isn 6 3, .non 6 2, .non 6 1, .non 6 0] := by
  have e7 : τ.ival 7 = IntKind.u8.wrap (BitVec.ofInt IntKind.u8.bits (τ.ival 2) &&& ~~~BitVec.ofInt IntKind.u8.bits (τ.ival 1)).toNat := eqI (e.at 0 _ rfl rfl) rfl
  have e44 : τ.ival 44 = IntKind.u8.wrap (BitVec.ofInt IntKind.u8.bits (τ.ival 7) &&& BitVec.ofInt IntKind.u8.bits (8)).toNat := eqI (e.at 37 _ rfl rfl) rfl
  have e45 : τ.bval 45 = (τ.ival 44 != 0) := eqB (e.at 38 _ rfl rfl) rfl
  have e46 : τ.ival 46 = IntKind.u8.wrap (BitVec.ofInt IntKind.u8.bits (τ.ival 1) &&& BitVec.ofInt IntKind.u8.bits (8)).toNat := eqI (e.at 39 _ rfl rfl) rfl
  have e47 : τ.bval 47 = (τ.ival 46 == 0) := eqB (e.at 40 _ rfl rfl) rfl
  have e48 : τ.ival 48 = IntKind.u8.wrap (BitVec.ofInt IntKind.u8.bits (τ.ival 2) &&& BitVec.ofInt IntKind.u8.bits (8)).toNat := eqI (e.at 41 _ rfl rfl) rfl
  have e49 : τ.bval 49 = (τ.ival 48 != 0) := eqB (e.at 42 _ rfl rfl) rfl
  have e50 : τ.bval 50 = (τ.bval 45 != τ.bval 49) := eqB (e.at 43 _ rfl rfl) rfl
  have e51 : τ.bval 51 = (τ.bval 45 != false) := eqB (e.at 44 _ rfl rfl) rfl
  have e52 : τ.ival 52 = IntKind.u8.wrap (BitVec.ofInt IntKind.u8.bits (τ.ival 0) &&& BitVec.ofInt IntKind.u8.bits (8)).toNat := eqI (e.at 45 _ rfl rfl) rfl
  have e53 : τ.bval 53 = (τ.ival 52 != 0) := eqB (e.at 46 _ rfl rfl) rfl
  have e54 : τ.bval 54 = (bif τ.bval 53 then τ.bval 45 else false) := eqIteB (e.at 47 _ rfl rfl) rfl rfl rfl
  have e55 : τ.bval 55 = (bif τ.bval 5 then true else τ.bval 54) := eqIteB (e.at 48 _ rfl rfl) rfl rfl rfl
  obtain ⟨j0, j8, j4, j5⟩ := hj
  replace e7 : bv (τ.ival 7) = ris (τ.ival 1) (τ.ival 2) := by rw [e7]; exact bv_w _
  replace e45 : τ.bval 45 = ((bv (τ.ival 2)).getLsbD 3 && !(bv (τ.ival 1)).getLsbD 3) := by
    rw [e45, e44]
    show (IntKind.u8.wrap (((bv (τ.ival 7)) &&& bv 8 : BitVec 8).toNat : Int) != 0) = _
    rw [ne0, bit3, e7, ris, getL_and, getL_not _ _ (by decide)]
  replace e47 : τ.bval 47 = !(bv (τ.ival 1)).getLsbD 3 := by
    rw [e47, e46]
    show (IntKind.u8.wrap (((bv (τ.ival 1)) &&& bv 8 : BitVec 8).toNat : Int) == 0) = _
    rw [eq0, bit3]
  replace e49 : τ.bval 49 = (bv (τ.ival 2)).getLsbD 3 := by
    rw [e49, e48]
    show (IntKind.u8.wrap (((bv (τ.ival 2)) &&& bv 8 : BitVec 8).toNat : Int) != 0) = _
    rw [ne0, bit3]
  replace e53 : τ.bval 53 = (bv (τ.ival 0)).getLsbD 3 := by
    rw [e53, e52]
    show (IntKind.u8.wrap (((bv (τ.ival 0)) &&& bv 8 : BitVec 8).toNat : Int) != 0) = _
    rw [ne0, bit3]
  have hJ : τ.ival 6 = 3 → τ.bval 55 = some8 (ris (τ.ival 1) (τ.ival 2) &&& bv (τ.ival 0)) 4 := by
    intro h6
    rw [h6] at j5
    rw [e55, e54, e53, e45]
    show _ = (some8 _ 3 || _)
    rw [j5]
    rw [getL_and, ris, getL_and, getL_not _ _ (by decide)]
    show (bif some8 _ 3 then true else _) = _
    cases some8 (bv (τ.ival 2) &&& ~~~bv (τ.ival 1) &&& bv (τ.ival 0)) 3 <;> cases (bv (τ.ival 2)).getLsbD 3 <;> cases (bv (τ.ival 1)).getLsbD 3 <;> cases (bv (τ.ival 0)).getLsbD 3 <;> rfl
  refine ⟨⟨fun hF => ?_, fun hF => ?_⟩, ⟨fun hF => ?_, fun hF => ?_⟩⟩
  · have h1 : τ.bval 50 = true := hF.1
    have h2 : τ.bval 47 = true := hF.2.1
    rw [e50, e45, e49] at h1
    rw [e47] at h2
    rw [h2] at h1
    simp at h1
  · have h6 : τ.ival 6 = 3 := hF.2.2.1
    refine .inl ⟨rfl, rfl, insOk_asg e hin 12 (by kernel_rfl), ⟨by show (0 : Int) ≤ 4; decide, by show (4 : Int) ≤ 8; decide, j4, hJ h6⟩, ht, ?_⟩
    show ((8 : Int) - 4).toNat < ((8 : Int) - τ.ival 6).toNat
    rw [h6]; decide
  · have h1 : τ.bval 51 = true := hF.1
    have h2 : τ.bval 47 = false := hF.2.1
    rw [e51, e45] at h1
    rw [e47] at h2
    rw [h2] at h1
    simp at h1
  · have h6 : τ.ival 6 = 3 := hF.2.2.1
    refine .inl ⟨rfl, rfl, insOk_asg e hin 12 (by kernel_rfl), ⟨by show (0 : Int) ≤ 4; decide, by show (4 : Int) ≤ 8; decide, j4, hJ h6⟩, ht, ?_⟩
    show ((8 : Int) - 4).toNat < ((8 : Int) - τ.ival 6).toNat
    rw [h6]; decide

set_option maxRecDepth 100000 in
theorem geB_4 {W0 : World} {Z : Exit → Act → World → Prop} (τ : Sig) (e : Eqs τ 7 geBG) (ht : τ.tab = noTab) (hin : InsOk τ 7 geK1) (hj : geJ τ) :
    segsW τ (fun x s σ2 => (x = .normal ∧ s = geS1 ∧ InsOk σ2 7 geK1 ∧ geJ σ2 ∧ σ2.tab = noTab ∧ (fun σ : Sig => (8 - σ.ival 6).toNat) σ2 < (fun σ : Sig => (8 - σ.ival 6).toNat) τ) ∨ (x = .exit 0 ∧ s = geS4 ∧ InsOk σ2 6 geK4 ∧ geJ4 σ2 ∧ σ2.tab = noTab) ∨ (x = .ret ∧ EndZ noTab 158 W0 Z x s σ2)) (.run (.node 59 (.node 62 (.dead) (.leaf .normal geS1 [] [(0, .symi .u8 0), (1, .symi .u8 1), (2, .symi .u8 2), (3, .symi .u8 3), (4, .symb 4), (5, .symb 67), (6, .int .i64 5)] [])) (.node 63 (.dead) (.leaf .normal geS1 [] [(0, .symi .u8 0), (1, .symi .u8 1), (2, .symi .u8 2), (3, .symi .u8 3), (4, .symb 4), (5, .symb 67), (6, .int .i64 5)] [])))) [.isn 6 4, .non 6 3, .non 6 2, .non 6 1, .non 6 0] := by
  have e7 : τ.ival 7 = IntKind.u8.wrap (BitVec.ofInt IntKind.u8.bits (τ.ival 2) &&& ~~~BitVec.ofInt IntKind.u8.bits (τ.ival 1)).toNat := eqI (e.at 0 _ rfl rfl) rfl
  have e56 : τ.ival 56 = IntKind.u8.wrap (BitVec.ofInt IntKind.u8.bits (τ.ival 7) &&& BitVec.ofInt IntKind.u8.bits (16)).toNat := eqI (e.at 49 _ rfl rfl) rfl
  have e57 : τ.bval 57 = (τ.ival 56 != 0) := eqB (e.at 50 _ rfl rfl) rfl
  have e58 : τ.ival 58 = IntKind.u8.wrap (BitVec.ofInt IntKind.u8.bits (τ.ival 1) &&& BitVec.ofInt IntKind.u8.bits (16)).toNat := eqI (e.at 51 _ rfl rfl) rfl
  have e59 : τ.bval 59 = (τ.ival 58 == 0) := eqB (e.at 52 _ rfl rfl) rfl
  have e60 : τ.ival 60 = IntKind.u8.wrap (BitVec.ofInt IntKind.u8.bits (τ.ival 2) &&& BitVec.ofInt IntKind.u8.bits (16)).toNat := eqI (e.at 53 _ rfl rfl) rfl
  have e61 : τ.bval 61 = (τ.ival 60 != 0) := eqB (e.at 54 _ rfl rfl) rfl
  have e62 : τ.bval 62 = (τ.bval 57 != τ.bval 61) := eqB (e.at 55 _ rfl rfl) rfl
  have e63 : τ.bval 63 = (τ.bval 57 != false) := eqB (e.at 56 _ rfl rfl) rfl
  have e64 : τ.ival 64 = IntKind.u8.wrap (BitVec.ofInt IntKind.u8.bits (τ.ival 0) &&& BitVec.ofInt IntKind.u8.bits (16)).toNat := eqI (e.at 57 _ rfl rfl) rfl
  have e65 : τ.bval 65 = (τ.ival 64 != 0) := eqB (e.at 58 _ rfl rfl) rfl
  have e66 : τ.bval 66 = (bif τ.bval 65 then τ.bval 57 else false) := eqIteB (e.at 59 _ rfl rfl) rfl rfl rfl
  have e67 : τ.bval 67 = (bif τ.bval 5 then true else τ.bval 66) := eqIteB (e.at 60 _ rfl rfl) rfl rfl rfl
  obtain ⟨j0, j8, j4, j5⟩ := hj
  replace e7 : bv (τ.ival 7) = ris (τ.ival 1) (τ.ival 2) := by rw [e7]; exact bv_w _
  replace e57 : τ.bval 57 = ((bv (τ.ival 2)).getLsbD 4 && !(bv (τ.ival 1)).getLsbD 4) := by
    rw [e57, e56]
    show (IntKind.u8.wrap (((bv (τ.ival 7)) &&& bv 16 : BitVec 8).toNat : Int) != 0) = _
    rw [ne0, bit4, e7, ris, getL_and, getL_not _ _ (by decide)]
  replace e59 : τ.bval 59 = !(bv (τ.ival 1)).getLsbD 4 := by
    rw [e59, e58]
    show (IntKind.u8.wrap (((bv (τ.ival 1)) &&& bv 16 : BitVec 8).toNat : Int) == 0) = _
    rw [eq0, bit4]
  replace e61 : τ.bval 61 = (bv (τ.ival 2)).getLsbD 4 := by
    rw [e61, e60]
    show (IntKind.u8.wrap (((bv (τ.ival 2)) &&& bv 16 : BitVec 8).toNat : Int) != 0) = _
    rw [ne0, bit4]
  replace e65 : τ.bval 65 = (bv (τ.ival 0)).getLsbD 4 := by
    rw [e65, e64]
    show (IntKind.u8.wrap (((bv (τ.ival 0)) &&& bv 16 : BitVec 8).toNat : Int) != 0) = _
    rw [ne0, bit4]
  have hJ : τ.ival 6 = 4 → τ.bval 67 = some8 (ris (τ.ival 1) (τ.ival 2) &&& bv (τ.ival 0)) 5 := by
    intro h6
    rw [h6] at j5
    rw [e67, e66, e65, e57]
    show _ = (some8 _ 4 || _)
    rw [j5]
    rw [getL_and, ris, getL_and, getL_not _ _ (by decide)]
    show (bif some8 _ 4 then true else _) = _
    cases some8 (bv (τ.ival 2) &&& ~~~bv (τ.ival 1) &&& bv (τ.ival 0)) 4 <;> cases (bv (τ.ival 2)).getLsbD 4 <;> cases (bv (τ.ival 1)).getLsbD 4 <;> cases (bv (τ.ival 0)).getLsbD 4 <;> rfl
  refine ⟨⟨fun hF => ?_, fun hF => ?_⟩, ⟨fun hF => ?_, fun hF => ?_⟩⟩
  · have h1 : τ.bval 62 = true := hF.1
    have h2 : τ.bval 59 = true := hF.2.1
    rw [e62, e57, e61] at h1
    rw [e59] at h2
    rw [h2] at h1
    simp at h1
  · have h6 : τ.ival 6 = 4 := hF.2.2.1
    refine .inl ⟨rfl, rfl, insOk_asg e hin 12 (by kernel_rfl), ⟨by show (0 : Int) ≤ 5; decide, by show (5 : Int) ≤ 8; decide, j4, hJ h6⟩, ht, ?_⟩
    show ((8 : Int) - 5).toNat < ((8 : Int) - τ.ival 6).toNat
    rw [h6]; decide
  · have h1 : τ.bval 63 = true := hF.1
    have h2 : τ.bval 59 = false := hF.2.1
    rw [e63, e57] at h1
    rw [e59] at h2
    rw [h2] at h1
    simp at h1
  · have h6 : τ.ival 6 = 4 := hF.2.2.1
    refine .inl ⟨rfl, rfl, insOk_asg e hin 12 (by kernel_rfl), ⟨by show (0 : Int) ≤ 5; decide, by show (5 : Int) ≤ 8; decide, j4, hJ h6⟩, ht, ?_⟩
    show ((8 : Int) - 5).toNat < ((8 : Int) - τ.ival 6).toNat
    rw [h6]; decide

set_option maxRecDepth 100000 in
theorem geB_5 {W0 : World} {Z : Exit → Act → World → Prop} (τ : Sig) (e : Eqs τ 7 geBG) (ht : τ.tab = noTab) (hin : InsOk τ 7 geK1) (hj : geJ τ) :
    segsW τ (fun x s σ2 => (x = .normal ∧ s = geS1 ∧ InsOk σ2 7 geK1 ∧ geJ σ2 ∧ σ2.tab = noTab ∧ (fun σ : Sig => (8 - σ.ival 6).toNat) σ2 < (fun σ : Sig => (8 - σ.ival 6).toNat) τ) ∨ (x = .exit 0 ∧ s = geS4 ∧ InsOk σ2 6 geK4 ∧ geJ4 σ2 ∧ σ2.tab = noTab) ∨ (x = .ret ∧ EndZ noTab 158 W0 Z x s σ2)) (.run (.node 71 (.node 74 (.dead) (.leaf .normal geS1 [] [(0, .symi .u8 0), (1, .symi .u8 1), (2, .symi .u8 2), (3, .symi .u8 3), (4, .symb 4), (5, .symb 79), (6, .int .i64 6)] [])) (.node 75 (.dead) (.leaf .normal geS1 [] [(0, .symi .u8 0), (1, .symi .u8 1), (2, .symi .u8 2), (3, .symi .u8 3), (4, .symb 4), (5, .symb 79), (6, .int .i64 6)] [])))) [.isn 6 5, .non 6 4, .non 6 3, .non 6 2, .non 6 1, .non 6 0] := by
  have e7 : τ.ival 7 = IntKind.u8.wrap (BitVec.ofInt IntKind.u8.bits (τ.ival 2) &&& ~~~BitVec.ofInt IntKind.u8.bits (τ.ival 1)).toNat := eqI (e.at 0 _ rfl rfl) rfl
  have e68 : τ.ival 68 = IntKind.u8.wrap (BitVec.ofInt IntKind.u8.bits (τ.ival 7) &&& BitVec.ofInt IntKind.u8.bits (32)).toNat := eqI (e.at 61 _ rfl rfl) rfl
  have e69 : τ.bval 69 = (τ.ival 68 != 0) := eqB (e.at 62 _ rfl rfl) rfl
  have e70 : τ.ival 70 = IntKind.u8.wrap (BitVec.ofInt IntKind.u8.bits (τ.ival 1) &&& BitVec.ofInt IntKind.u8.bits (32)).toNat := eqI (e.at 63 _ rfl rfl) rfl
  have e71 : τ.bval 71 = (τ.ival 70 == 0) := eqB (e.at 64 _ rfl rfl) rfl
  have e72 : τ.ival 72 = IntKind.u8.wrap (BitVec.ofInt IntKind.u8.bits (τ.ival 2) &&& BitVec.ofInt IntKind.u8.bits (32)).toNat := eqI (e.at 65 _ rfl rfl) rfl
  have e73 : τ.bval 73 = (τ.ival 72 != 0) := eqB (e.at 66 _ rfl rfl) rfl
  have e74 : τ.bval 74 = (τ.bval 69 != τ.bval 73) := eqB (e.at 67 _ rfl rfl) rfl
  have e75 : τ.bval 75 = (τ.bval 69 != false) := eqB (e.at 68 _ rfl rfl) rfl
  have e76 : τ.ival 76 = IntKind.u8.wrap (BitVec.ofInt IntKind.u8.bits (τ.ival 0) &&& BitVec.ofInt IntKind.u8.bits (32)).toNat := eqI (e.at 69 _ rfl rfl) rfl
  have e77 : τ.bval 77 = (τ.ival 76 != 0) := eqB (e.at 70 _ rfl rfl) rfl
  have e78 : τ.bval 78 = (bif τ.bval 77 then τ.bval 69 else false) := eqIteB (e.at 71 _ rfl rfl) rfl rfl rfl
  have e79 : τ.bval 79 = (bif τ.bval 5 then true else τ.bval 78) := eqIteB (e.at 72 _ rfl rfl) rfl rfl rfl
  obtain ⟨j0, j8, j4, j5⟩ := hj
  replace e7 : bv (τ.ival 7) = ris (τ.ival 1) (τ.ival 2) := by rw [e7]; exact bv_w _
  replace e69 : τ.bval 69 = ((bv (τ.ival 2)).getLsbD 5 && !(bv (τ.ival 1)).getLsbD 5) := by
    rw [e69, e68]
    show (IntKind.u8.wrap (((bv (τ.ival 7)) &&& bv 32 : BitVec 8).toNat : Int) != 0) = _
    rw [ne0, bit5, e7, ris, getL_and, getL_not _ _ (by decide)]
  replace e71 : τ.bval 71 = !(bv (τ.ival 1)).getLsbD 5 := by
    rw [e71, e70]
    show (IntKind.u8.wrap (((bv (τ.ival 1)) &&& bv 32 : BitVec 8).toNat : Int) == 0) = _
    rw [eq0, bit5]
  replace e73 : τ.bval 73 = (bv (τ.ival 2)).getLsbD 5 := by
    rw [e73, e72]
    show (IntKind.u8.wrap (((bv (τ.ival 2)) &&& bv 32 : BitVec 8).toNat : Int) != 0) = _
    rw [ne0, bit5]
  replace e77 : τ.bval 77 = (bv (τ.ival 0)).getLsbD 5 := by
    rw [e77, e76]
    show (IntKind.u8.wrap (((bv (τ.ival 0)) &&& bv 32 : BitVec 8).toNat : Int) != 0) = _
    rw [ne0, bit5]
  have hJ : τ.ival 6 = 5 → τ.bval 79 = some8 (ris (τ.ival 1) (τ.ival 2) &&& bv (τ.ival 0)) 6 := by
    intro h6
    rw [h6] at j5
    rw [e79, e78, e77, e69]
    show _ = (some8 _ 5 || _)
    rw [j5]
    rw [getL_and, ris, getL_and, getL_not _ _ (by decide)]
    show (bif some8 _ 5 then true else _) = _
    cases some8 (bv (τ.ival 2) &&& ~~~bv (τ.ival 1) &&& bv (τ.ival 0)) 5 <;> cases (bv (τ.ival 2)).getLsbD 5 <;> cases (bv (τ.ival 1)).getLsbD 5 <;> cases (bv (τ.ival 0)).getLsbD 5 <;> rfl
  refine ⟨⟨fun hF => ?_, fun hF => ?_⟩, ⟨fun hF => ?_, fun hF => ?_⟩⟩
  · have h1 : τ.bval 74 = true := hF.1
    have h2 : τ.bval 71 = true := hF.2.1
    rw [e74, e69, e73] at h1
    rw [e71] at h2
    rw [h2] at h1
    simp at h1
  · have h6 : τ.ival 6 = 5 := hF.2.2.1
    refine .inl ⟨rfl, rfl, insOk_asg e hin 12 (by kernel_rfl), ⟨by show (0 : Int) ≤ 6; decide, by show (6 : Int) ≤ 8; decide, j4, hJ h6⟩, ht, ?_⟩
    show ((8 : Int) - 6).toNat < ((8 : Int) - τ.ival 6).toNat
    rw [h6]; decide
  · have h1 : τ.bval 75 = true := hF.1
    have h2 : τ.bval 71 = false := hF.2.1
    rw [e75, e69] at h1
    rw [e71] at h2
    rw [h2] at h1
    simp at h1
  · have h6 : τ.ival 6 = 5 := hF.2.2.1
    refine .inl ⟨rfl, rfl, insOk_asg e hin 12 (by kernel_rfl), ⟨by show (0 : Int) ≤ 6; decide, by show (6 : Int) ≤ 8; decide, j4, hJ h6⟩, ht, ?_⟩
    show ((8 : Int) - 6).toNat < ((8 : Int) - τ.ival 6).toNat
    rw [h6]; decide

set_option maxRecDepth 100000 in
theorem geB_6 {W0 : World} {Z : Exit → Act → World → Prop} (τ : Sig) (e : Eqs τ 7 geBG) (ht : τ.tab = noTab) (hin : InsOk τ 7 geK1) (hj : geJ τ) :
    segsW τ (fun x s σ2 => (x = .normal ∧ s = geS1 ∧ InsOk σ2 7 geK1 ∧ geJ σ2 ∧ σ2.tab = noTab ∧ (fun σ : Sig => (8 - σ.ival 6).toNat) σ2 < (fun σ : Sig => (8 - σ.ival 6).toNat) τ) ∨ (x = .exit 0 ∧ s = geS4 ∧ InsOk σ2 6 geK4 ∧ geJ4 σ2 ∧ σ2.tab = noTab) ∨ (x = .ret ∧ EndZ noTab 158 W0 Z x s σ2)) (.run (.node 83 (.node 86 (.dead) (.leaf .normal geS1 [] [(0, .symi .u8 0), (1, .symi .u8 1), (2, .symi .u8 2), (3, .symi .u8 3), (4, .symb 4), (5, .symb 91), (6, .int .i64 7)] [])) (.node 87 (.dead) (.leaf .normal geS1 [] [(0, .symi .u8 0), (1, .symi .u8 1), (2, .symi .u8 2), (3, .symi .u8 3), (4, .symb 4), (5, .symb 91), (6, .int .i64 7)] [])))) [.isn 6 6, .non 6 5, .non 6 4, .non 6 3, .non 6 2, .non 6 1, .non 6 0] := by
  have e7 : τ.ival 7 = IntKind.u8.wrap (BitVec.ofInt IntKind.u8.bits (τ.ival 2) &&& ~~~BitVec.ofInt IntKind.u8.bits (τ.ival 1)).toNat := eqI (e.at 0 _ rfl rfl) rfl
  have e80 : τ.ival 80 = IntKind.u8.wrap (BitVec.ofInt IntKind.u8.bits (τ.ival 7) &&& BitVec.ofInt IntKind.u8.bits (64)).toNat := eqI (e.at 73 _ rfl rfl) rfl
  have e81 : τ.bval 81 = (τ.ival 80 != 0) := eqB (e.at 74 _ rfl rfl) rfl
  have e82 : τ.ival 82 = IntKind.u8.wrap (BitVec.ofInt IntKind.u8.bits (τ.ival 1) &&& BitVec.ofInt IntKind.u8.bits (64)).toNat := eqI (e.at 75 _ rfl rfl) rfl
  have e83 : τ.bval 83 = (τ.ival 82 == 0) := eqB (e.at 76 _ rfl rfl) rfl
  have e84 : τ.ival 84 = IntKind.u8.wrap (BitVec.ofInt IntKind.u8.bits (τ.ival 2) &&& BitVec.ofInt IntKind.u8.bits (64)).toNat := eqI (e.at 77 _ rfl rfl) rfl
  have e85 : τ.bval 85 = (τ.ival 84 != 0) := eqB (e.at 78 _ rfl rfl) rfl
  have e86 : τ.bval 86 = (τ.bval 81 != τ.bval 85) := eqB (e.at 79 _ rfl rfl) rfl
  have e87 : τ.bval 87 = (τ.bval 81 != false) := eqB (e.at 80 _ rfl rfl) rfl
  have e88 : τ.ival 88 = IntKind.u8.wrap (BitVec.ofInt IntKind.u8.bits (τ.ival 0) &&& BitVec.ofInt IntKind.u8.bits (64)).toNat := eqI (e.at 81 _ rfl rfl) rfl
  have e89 : τ.bval 89 = (τ.ival 88 != 0) := eqB (e.at 82 _ rfl rfl) rfl
  have e90 : τ.bval 90 = (bif τ.bval 89 then τ.bval 81 else false) := eqIteB (e.at 83 _ rfl rfl) rfl rfl rfl
  have e91 : τ.bval 91 = (bif τ.bval 5 then true else τ.bval 90) := eqIteB (e.at 84 _ rfl rfl) rfl rfl rfl
  obtain ⟨j0, j8, j4, j5⟩ := hj
  replace e7 : bv (τ.ival 7) = ris (τ.ival 1) (τ.ival 2) := by rw [e7]; exact bv_w _
  replace e81 : τ.bval 81 = ((bv (τ.ival 2)).getLsbD 6 && !(bv (τ.ival 1)).getLsbD 6) := by
    rw [e81, e80]
    show (IntKind.u8.wrap (((bv (τ.ival 7)) &&& bv 64 : BitVec 8).toNat : Int) != 0) = _
    rw [ne0, bit6, e7, ris, getL_and, getL_not _ _ (by decide)]
  replace e83 : τ.bval 83 = !(bv (τ.ival 1)).getLsbD 6 := by
    rw [e83, e82]
    show (IntKind.u8.wrap (((bv (τ.ival 1)) &&& bv 64 : BitVec 8).toNat : Int) == 0) = _
    rw [eq0, bit6]
  replace e85 : τ.bval 85 = (bv (τ.ival 2)).getLsbD 6 := by
    rw [e85, e84]
    show (IntKind.u8.wrap (((bv (τ.ival 2)) &&& bv 64 : BitVec 8).toNat : Int) != 0) = _
    rw [ne0, bit6]
  replace e89 : τ.bval 89 = (bv (τ.ival 0)).getLsbD 6 := by
    rw [e89, e88]
    show (IntKind.u8.wrap (((bv (τ.ival 0)) &&& bv 64 : BitVec 8).toNat : Int) != 0) = _
    rw [ne0, bit6]
  have hJ : τ.ival 6 = 6 → τ.bval 91 = some8 (ris (τ.ival 1) (τ.ival 2) &&& bv (τ.ival 0)) 7 := by
    intro h6
    rw [h6] at j5
    rw [e91, e90, e89, e81]
    show _ = (some8 _ 6 || _)
    rw [j5]
    rw [getL_and, ris, getL_and, getL_not _ _ (by decide)]
    show (bif some8 _ 6 then true else _) = _
    cases some8 (bv (τ.ival 2) &&& ~~~bv (τ.ival 1) &&& bv (τ.ival 0)) 6 <;> cases (bv (τ.ival 2)).getLsbD 6 <;> cases (bv (τ.ival 1)).getLsbD 6 <;> cases (bv (τ.ival 0)).getLsbD 6 <;> rfl
  refine ⟨⟨fun hF => ?_, fun hF => ?_⟩, ⟨fun hF => ?_, fun hF => ?_⟩⟩
  · have h1 : τ.bval 86 = true := hF.1
    have h2 : τ.bval 83 = true := hF.2.1
    rw [e86, e81, e85] at h1
    rw [e83] at h2
    rw [h2] at h1
    simp at h1
  · have h6 : τ.ival 6 = 6 := hF.2.2.1
    refine .inl ⟨rfl, rfl, insOk_asg e hin 12 (by kernel_rfl), ⟨by show (0 : Int) ≤ 7; decide, by show (7 : Int) ≤ 8; decide, j4, hJ h6⟩, ht, ?_⟩
    show ((8 : Int) - 7).toNat < ((8 : Int) - τ.ival 6).toNat
    rw [h6]; decide
  · have h1 : τ.bval 87 = true := hF.1
    have h2 : τ.bval 83 = false := hF.2.1
    rw [e87, e81] at h1
    rw [e83] at h2
    rw [h2] at h1
    simp at h1
  · have h6 : τ.ival 6 = 6 := hF.2.2.1
    refine .inl ⟨rfl, rfl, insOk_asg e hin 12 (by kernel_rfl), ⟨by show (0 : Int) ≤ 7; decide, by show (7 : Int) ≤ 8; decide, j4, hJ h6⟩, ht, ?_⟩
    show ((8 : Int) - 7).toNat < ((8 : Int) - τ.ival 6).toNat
    rw [h6]; decide

set_option maxRecDepth 100000 in
theorem geB_7 {W0 : World} {Z : Exit → Act → World → Prop} (τ : Sig) (e : Eqs τ 7 geBG) (ht : τ.tab = noTab) (hin : InsOk τ 7 geK1) (hj : geJ τ) :
    segsW τ (fun x s σ2 => (x = .normal ∧ s = geS1 ∧ InsOk σ2 7 geK1 ∧ geJ σ2 ∧ σ2.tab = noTab ∧ (fun σ : Sig => (8 - σ.ival 6).toNat) σ2 < (fun σ : Sig => (8 - σ.ival 6).toNat) τ) ∨ (x = .exit 0 ∧ s = geS4 ∧ InsOk σ2 6 geK4 ∧ geJ4 σ2 ∧ σ2.tab = noTab) ∨ (x = .ret ∧ EndZ noTab 158 W0 Z x s σ2)) (.run (.node 95 (.node 98 (.dead) (.leaf .normal geS1 [] [(0, .symi .u8 0), (1, .symi .u8 1), (2, .symi .u8 2), (3, .symi .u8 3), (4, .symb 4), (5, .symb 103), (6, .int .i64 8)] [])) (.node 99 (.dead) (.leaf .normal geS1 [] [(0, .symi .u8 0), (1, .symi .u8 1), (2, .symi .u8 2), (3, .symi .u8 3), (4, .symb 4), (5, .symb 103), (6, .int .i64 8)] [])))) [.isn 6 7, .non 6 6, .non 6 5, .non 6 4, .non 6 3, .non 6 2, .non 6 1, .non 6 0] := by
  have e7 : τ.ival 7 = IntKind.u8.wrap (BitVec.ofInt IntKind.u8.bits (τ.ival 2) &&& ~~~BitVec.ofInt IntKind.u8.bits (τ.ival 1)).toNat := eqI (e.at 0 _ rfl rfl) rfl
  have e92 : τ.ival 92 = IntKind.u8.wrap (BitVec.ofInt IntKind.u8.bits (τ.ival 7) &&& BitVec.ofInt IntKind.u8.bits (128)).toNat := eqI (e.at 85 _ rfl rfl) rfl
  have e93 : τ.bval 93 = (τ.ival 92 != 0) := eqB (e.at 86 _ rfl rfl) rfl
  have e94 : τ.ival 94 = IntKind.u8.wrap (BitVec.ofInt IntKind.u8.bits (τ.ival 1) &&& BitVec.ofInt IntKind.u8.bits (128)).toNat := eqI (e.at 87 _ rfl rfl) rfl
  have e95 : τ.bval 95 = (τ.ival 94 == 0) := eqB (e.at 88 _ rfl rfl) rfl
  have e96 : τ.ival 96 = IntKind.u8.wrap (BitVec.ofInt IntKind.u8.bits (τ.ival 2) &&& BitVec.ofInt IntKind.u8.bits (128)).toNat := eqI (e.at 89 _ rfl rfl) rfl
  have e97 : τ.bval 97 = (τ.ival 96 != 0) := eqB (e.at 90 _ rfl rfl) rfl
  have e98 : τ.bval 98 = (τ.bval 93 != τ.bval 97) := eqB (e.at 91 _ rfl rfl) rfl
  have e99 : τ.bval 99 = (τ.bval 93 != false) := eqB (e.at 92 _ rfl rfl) rfl
  have e100 : τ.ival 100 = IntKind.u8.wrap (BitVec.ofInt IntKind.u8.bits (τ.ival 0) &&& BitVec.ofInt IntKind.u8.bits (128)).toNat := eqI (e.at 93 _ rfl rfl) rfl
  have e101 : τ.bval 101 = (τ.ival 100 != 0) := eqB (e.at 94 _ rfl rfl) rfl
  have e102 : τ.bval 102 = (bif τ.bval 101 then τ.bval 93 else false) := eqIteB (e.at 95 _ rfl rfl) rfl rfl rfl
  have e103 : τ.bval 103 = (bif τ.bval 5 then true else τ.bval 102) := eqIteB (e.at 96 _ rfl rfl) rfl rfl rfl
  obtain ⟨j0, j8, j4, j5⟩ := hj
  replace e7 : bv (τ.ival 7) = ris (τ.ival 1) (τ.ival 2) := by rw [e7]; exact bv_w _
  replace e93 : τ.bval 93 = ((bv (τ.ival 2)).getLsbD 7 && !(bv (τ.ival 1)).getLsbD 7) := by
    rw [e93, e92]
    show (IntKind.u8.wrap (((bv (τ.ival 7)) &&& bv 128 : BitVec 8).toNat : Int) != 0) = _
    rw [ne0, bit7, e7, ris, getL_and, getL_not _ _ (by decide)]
  replace e95 : τ.bval 95 = !(bv (τ.ival 1)).getLsbD 7 := by
    rw [e95, e94]
    show (IntKind.u8.wrap (((bv (τ.ival 1)) &&& bv 128 : BitVec 8).toNat : Int) == 0) = _
    rw [eq0, bit7]
  replace e97 : τ.bval 97 = (bv (τ.ival 2)).getLsbD 7 := by
    rw [e97, e96]
    show (IntKind.u8.wrap (((bv (τ.ival 2)) &&& bv 128 : BitVec 8).toNat : Int) != 0) = _
    rw [ne0, bit7]
  replace e101 : τ.bval 101 = (bv (τ.ival 0)).getLsbD 7 := by
    rw [e101, e100]
    show (IntKind.u8.wrap (((bv (τ.ival 0)) &&& bv 128 : BitVec 8).toNat : Int) != 0) = _
    rw [ne0, bit7]
  have hJ : τ.ival 6 = 7 → τ.bval 103 = some8 (ris (τ.ival 1) (τ.ival 2) &&& bv (τ.ival 0)) 8 := by
    intro h6
    rw [h6] at j5
    rw [e103, e102, e101, e93]
    show _ = (some8 _ 7 || _)
    rw [j5]
    rw [getL_and, ris, getL_and, getL_not _ _ (by decide)]
    show (bif some8 _ 7 then true else _) = _
    cases some8 (bv (τ.ival 2) &&& ~~~bv (τ.ival 1) &&& bv (τ.ival 0)) 7 <;> cases (bv (τ.ival 2)).getLsbD 7 <;> cases (bv (τ.ival 1)).getLsbD 7 <;> cases (bv (τ.ival 0)).getLsbD 7 <;> rfl
  refine ⟨⟨fun hF => ?_, fun hF => ?_⟩, ⟨fun hF => ?_, fun hF => ?_⟩⟩
  · have h1 : τ.bval 98 = true := hF.1
    have h2 : τ.bval 95 = true := hF.2.1
    rw [e98, e93, e97] at h1
    rw [e95] at h2
    rw [h2] at h1
    simp at h1
  · have h6 : τ.ival 6 = 7 := hF.2.2.1
    refine .inl ⟨rfl, rfl, insOk_asg e hin 12 (by kernel_rfl), ⟨by show (0 : Int) ≤ 8; decide, by show (8 : Int) ≤ 8; decide, j4, hJ h6⟩, ht, ?_⟩
    show ((8 : Int) - 8).toNat < ((8 : Int) - τ.ival 6).toNat
    rw [h6]; decide
  · have h1 : τ.bval 99 = true := hF.1
    have h2 : τ.bval 95 = false := hF.2.1
    rw [e99, e93] at h1
    rw [e95] at h2
    rw [h2] at h1
    simp at h1
  · have h6 : τ.ival 6 = 7 := hF.2.2.1
    refine .inl ⟨rfl, rfl, insOk_asg e hin 12 (by kernel_rfl), ⟨by show (0 : Int) ≤ 8; decide, by show (8 : Int) ≤ 8; decide, j4, hJ h6⟩, ht, ?_⟩
    show ((8 : Int) - 8).toNat < ((8 : Int) - τ.ival 6).toNat
    rw [h6]; decide

set_option maxRecDepth 100000 in
theorem geB_ob {W0 : World} {Z : Exit → Act → World → Prop} (τ : Sig) (e : Eqs τ 7 geBG) (ht : τ.tab = noTab) (hin : InsOk τ 7 geK1) (hj : geJ τ) :
    segsW τ (fun x s σ2 => (x = .normal ∧ s = geS1 ∧ InsOk σ2 7 geK1 ∧ geJ σ2 ∧ σ2.tab = noTab ∧ (fun σ : Sig => (8 - σ.ival 6).toNat) σ2 < (fun σ : Sig => (8 - σ.ival 6).toNat) τ) ∨ (x = .exit 0 ∧ s = geS4 ∧ InsOk σ2 6 geK4 ∧ geJ4 σ2 ∧ σ2.tab = noTab) ∨ (x = .ret ∧ EndZ noTab 158 W0 Z x s σ2)) geBW [] := by
  refine ⟨geB_0 τ e ht hin hj, ⟨geB_1 τ e ht hin hj, ⟨geB_2 τ e ht hin hj, ⟨geB_3 τ e ht hin hj, ⟨geB_4 τ e ht hin hj, ⟨geB_5 τ e ht hin hj, ⟨geB_6 τ e ht hin hj, ⟨geB_7 τ e ht hin hj, ⟨fun hF => .inr (.inl ⟨rfl, rfl, insOk_asg e hin 12 (by kernel_rfl), ?_, ht⟩), fun hF => ?_⟩⟩⟩⟩⟩⟩⟩⟩⟩
  · obtain ⟨j0, j8, j4, j5⟩ := hj
    have h6 : τ.ival 6 = 8 := hF.1
    rw [h6] at j5
    exact ⟨j4, by show τ.bval 5 = τ.bval 4; rw [j5, j4]; exact some8_all _⟩
  · obtain ⟨j0, j8, j4, j5⟩ := hj
    simp only [Holds, Fact.holds] at hF
    omega

set_option maxRecDepth 100000 in
theorem geA_ob {W0 : World} {Z : Exit → Act → World → Prop} (τ : Sig) (e : Eqs τ 5 geAG) (ht : τ.tab = noTab) (hin : InsOk τ 5 geK) :
    segsW τ (fun x s σ2 => (x = .normal ∧ s = geS1 ∧ InsOk σ2 7 geK1 ∧ geJ σ2 ∧ σ2.tab = noTab) ∨ (x ≠ .normal ∧ EndZ noTab 158 W0 Z x s σ2)) geAW [] := by
  have e5 : τ.ival 5 = IntKind.u8.wrap (BitVec.ofInt IntKind.u8.bits (τ.ival 2) &&& ~~~BitVec.ofInt IntKind.u8.bits (τ.ival 1)).toNat := eqI (e.at 0 _ rfl rfl) rfl
  have e6 : τ.ival 6 = IntKind.u8.wrap (BitVec.ofInt IntKind.u8.bits (τ.ival 5) &&& BitVec.ofInt IntKind.u8.bits (τ.ival 0)).toNat := eqI (e.at 1 _ rfl rfl) rfl
  have e7 : τ.bval 7 = (τ.ival 6 != 0) := eqB (e.at 2 _ rfl rfl) rfl
  have e8 : τ.ival 8 = IntKind.u8.wrap (BitVec.ofInt IntKind.u8.bits (τ.ival 2) &&& ~~~BitVec.ofInt IntKind.u8.bits (τ.ival 2)).toNat := eqI (e.at 3 _ rfl rfl) rfl
  have e9 : τ.ival 9 = IntKind.u8.wrap (BitVec.ofInt IntKind.u8.bits (τ.ival 8) &&& BitVec.ofInt IntKind.u8.bits (τ.ival 0)).toNat := eqI (e.at 4 _ rfl rfl) rfl
  have e10 : τ.bval 10 = (τ.ival 9 != 0) := eqB (e.at 5 _ rfl rfl) rfl
  refine ⟨fun hF => ?_, fun hF => .inl ⟨rfl, rfl, insOk_asg e hin 12 (by kernel_rfl), ⟨by show (0 : Int) ≤ 0; decide, by show (0 : Int) ≤ 8; decide, ?_, rfl⟩, ht⟩⟩
  · have h1 : τ.bval 10 = true := hF.1
    rw [e10, e9] at h1
    have h8 : bv (τ.ival 8) = 0#8 := by
      rw [e8]
      refine (bv_w _).trans ?_
      show bv (τ.ival 2) &&& ~~~ bv (τ.ival 2) = 0#8
      exact all8 (p := fun x => x &&& ~~~ x = 0#8) (by decide +kernel) _
    have : (IntKind.u8.wrap (((bv (τ.ival 8)) &&& bv (τ.ival 0) : BitVec 8).toNat : Int) != 0) = true := h1
    rw [ne0, h8] at this
    simp at this
  · show τ.bval 7 = (ris (τ.ival 1) (τ.ival 2) &&& bv (τ.ival 0) != 0#8)
    rw [e7, e6]
    refine (ne0 (bv (τ.ival 5) &&& bv (τ.ival 0))).trans ?_
    rw [e5]
    show (bv (IntKind.u8.wrap ((ris (τ.ival 1) (τ.ival 2)).toNat : Int)) &&& bv (τ.ival 0) != 0#8) = _
    rw [bv_w]

theorem or_ne {x y z : BitVec 8} (h : (x &&& y != 0#8) = true) : (x &&& (y ||| z) != 0#8) = true := by
  rw [bne_iff_ne] at h ⊢
  intro h2
  apply h
  apply BitVec.eq_of_getLsbD_eq
  intro i hi
  have := congrArg (fun b => b.getLsbD i) h2
  simp at this ⊢
  intro hx
  have := this hx
  simp_all

set_option maxRecDepth 100000 in
theorem geC_ob {W0 : World} {Z : Exit → Act → World → Prop} (τ : Sig) (e : Eqs τ 6 geCG) (ht : τ.tab = noTab) (hin : InsOk τ 6 geK4) (hj : geJ4 τ) :
    segsW τ (fun x s σ2 => (x = .normal ∧ s = geS2 ∧ InsOk σ2 2 [some .u8, some .u8] ∧ True ∧ σ2.tab = noTab) ∨ (x ≠ .normal ∧ EndZ noTab 158 W0 Z x s σ2)) geCW [] := by
  have e6 : τ.bval 6 = (τ.bval 4 != τ.bval 5) := eqB (e.at 0 _ rfl rfl) rfl
  have e7 : τ.ival 7 = IntKind.u8.wrap (BitVec.ofInt IntKind.u8.bits (τ.ival 0) ||| BitVec.ofInt IntKind.u8.bits (τ.ival 3)).toNat := eqI (e.at 1 _ rfl rfl) rfl
  have e8 : τ.ival 8 = IntKind.u8.wrap (BitVec.ofInt IntKind.u8.bits (τ.ival 2) &&& ~~~BitVec.ofInt IntKind.u8.bits (τ.ival 1)).toNat := eqI (e.at 2 _ rfl rfl) rfl
  have e9 : τ.ival 9 = IntKind.u8.wrap (BitVec.ofInt IntKind.u8.bits (τ.ival 8) &&& BitVec.ofInt IntKind.u8.bits (τ.ival 7)).toNat := eqI (e.at 3 _ rfl rfl) rfl
  have e10 : τ.bval 10 = (τ.ival 9 != 0) := eqB (e.at 4 _ rfl rfl) rfl
  have e11 : τ.bval 11 = (!τ.bval 10) := eqB (e.at 5 _ rfl rfl) rfl
  obtain ⟨j4, j5⟩ := hj
  refine ⟨fun hF => ?_, ⟨fun hF => ?_, fun hF => .inl ⟨rfl, rfl, insOk_asg e hin 12 (by kernel_rfl), trivial, ht⟩⟩, fun hF => .inl ⟨rfl, rfl, insOk_asg e hin 12 (by kernel_rfl), trivial, ht⟩⟩
  · have h1 : τ.bval 6 = true := hF.1
    rw [e6, j5] at h1
    simp at h1
  · have h1 : τ.bval 11 = true := hF.1
    have h2 : τ.bval 4 = true := hF.2.1
    rw [j4] at h2
    rw [e11, e10, e9, e7, e8] at h1
    have h3 : (!(IntKind.u8.wrap ((bv (IntKind.u8.wrap ((ris (τ.ival 1) (τ.ival 2)).toNat : Int)) &&& bv (IntKind.u8.wrap ((bv (τ.ival 0) ||| bv (τ.ival 3) : BitVec 8).toNat : Int)) : BitVec 8).toNat : Int) != 0)) = true := h1
    rw [ne0, bv_w, bv_w, or_ne h2] at h3
    cases h3

theorem holds_non {τ : Sig} : ∀ {n : Nat}, Holds τ (nons n) → ∀ k, k < n → τ.ival 2 ≠ k
  | 0, _, k, h => absurd h (by omega)
  | n + 1, hF, k, h => by
    by_cases e : k = n
    · subst e; exact hF.1
    · exact holds_non hF.2 k (by omega)

theorem geD_segs {τ : Sig} {Q : SEx → Shape → Sig → Prop} (h0 : 0 ≤ τ.ival 2) (h1 : τ.ival 2 < 256)
    (hq : ∀ k : Nat, τ.ival 2 = k → Q .normal geS3 (asgS τ ([(0, .symi .u8 0), (1, .symi .u8 1), (2, .int .u8 k)] ++ []))) : ∀ (n k : Nat), k + n = 256 → segsW τ Q (geDWs k n) (nons k)
  | 0, k, hk => by
    intro hF
    obtain rfl : k = 256 := by omega
    exact holds_non hF (τ.ival 2).toNat (by omega) (by omega)
  | n + 1, k, hk => ⟨fun hF => hq k hF.1, geD_segs h0 h1 hq n (k + 1) (by omega)⟩

set_option maxRecDepth 100000 in
theorem geD_ob {W0 : World} {Z : Exit → Act → World → Prop} (τ : Sig) (e : Eqs τ 2 geDG) (ht : τ.tab = noTab) (hin : InsOk τ 2 [some .u8, some .u8]) :
    segsW τ (fun x s σ2 => (x = .normal ∧ s = geS3 ∧ InsOk σ2 3 [some .u8, some .u8, some .u8] ∧ geJ3 σ2 ∧ σ2.tab = noTab) ∨ (x ≠ .normal ∧ EndZ noTab 158 W0 Z x s σ2)) (geDWs 0 256) [] := by
  have e2 : τ.ival 2 = IntKind.u8.wrap (BitVec.ofInt IntKind.u8.bits (τ.ival 1) &&& ~~~BitVec.ofInt IntKind.u8.bits (τ.ival 0)).toNat := eqI (e.at 0 _ rfl rfl) rfl
  replace e2 : τ.ival 2 = IntKind.u8.wrap ((ris (τ.ival 0) (τ.ival 1)).toNat : Int) := e2
  have hw : IntKind.u8.wrap (τ.ival 2) = τ.ival 2 := by rw [e2, w8, w8]
  obtain ⟨h0, h1⟩ := u8_range hw
  refine geD_segs h0 h1 (fun k hk => .inl ⟨rfl, rfl, ?_, ?_, ht⟩) 256 0 rfl
  · intro i kd hi hkd
    match i, hi, hkd with
    | 0, _, hkd => exact hin 0 kd (by decide) hkd
    | 1, _, hkd => exact hin 1 kd (by decide) hkd
    | 2, _, hkd =>
      cases hkd
      show IntKind.u8.wrap (k : Int) = k
      rw [← hk, hw]
  · show (k : Int) = IntKind.u8.wrap ((ris (τ.ival 0) (τ.ival 1)).toNat : Int)
    rw [← hk, e2]

set_option maxRecDepth 100000 in
theorem geE_ob {W0 : World} (τ : Sig) (e : Eqs τ 3 geEG) (ht : τ.tab = noTab) (hin : InsOk τ 3 [some .u8, some .u8, some .u8]) (hj : geJ3 τ) :
    segsW τ (EndZ noTab 158 W0 (bodyPost Try.prog Try.f7 (fun e W' => e = .returned (encR [.one .b] [1]) ∧ Below W0.heap.size W0 W'))) geEW [] := by
  have e3 : τ.ival 3 = IntKind.u8.wrap (255 - τ.ival 0) := eqI (e.at 0 _ rfl rfl) rfl
  have e4 : τ.ival 4 = IntKind.u8.wrap (BitVec.ofInt IntKind.u8.bits (τ.ival 1) &&& BitVec.ofInt IntKind.u8.bits (τ.ival 3)).toNat := eqI (e.at 1 _ rfl rfl) rfl
  have e5 : τ.bval 5 = (τ.ival 2 == τ.ival 4) := eqB (e.at 2 _ rfl rfl) rfl
  intro hF
  refine endZ_res (vs := [.symb 0]) (by kernel_rfl) ?_ (.inl rfl)
  have h : τ.bval 5 = true := by
    have r0 := u8_range (hin 0 .u8 (by decide) rfl)
    unfold geJ3 at hj
    rw [e5, e4, e3, hj, beq_iff_eq]
    show _ = IntKind.u8.wrap ((bv (τ.ival 1) &&& bv (IntKind.u8.wrap (255 - τ.ival 0)) : BitVec 8).toNat : Int)
    rw [inv255 _ r0.1 r0.2]
    rfl
  exact ⟨by show AVal.bool (τ.bval 5) = .bool true; rw [h], trivial⟩

set_option maxRecDepth 100000 in
theorem holds : FnOk Try.prog 7 geSs [.one .b] (fun _ => [1]) := by
  refine fn_of_stage (tab := noTab) (n := 158) Try.func7 (by kernel_rfl) (by kernel_rfl) (by simp [encS, geSs]) fun l W hl => ?_
  have c1 : flatC (bodyOf Try.f7) = (flatC (bodyOf Try.f7)).take 10 ++ (.block 0 (.loop (loopAt 10 (bodyOf Try.f7))) :: (((flatC (bodyOf Try.f7)).drop 11).take 2 ++ (((flatC (bodyOf Try.f7)).drop 13).take 4 ++ (flatC (bodyOf Try.f7)).drop 17))) := by kernel_rfl
  rw [c1]
  refine Stage.seg (q2 := 7) (ins2 := geK1) (S2 := geS1) (J2 := geJ) mixed geA_seg ⟨rfl, by kernel_rfl⟩ (fun σ τ ag h i hi => by rw [← (ag.val i hi).1]; exact h i hi) (fun _ _ => rows_nil) ?_ (fun τ e ht hi _ => geA_ob τ e ht hi)
  refine Stage.loop (q2 := 6) (ins2 := geK4) (S2 := geS4) (J2 := geJ4) (μ := fun σ => (8 - σ.ival 6).toNat) mixed geB_seg ⟨rfl, rfl⟩ geJ_agree (fun σ τ ag => by show (8 - σ.ival 6).toNat = (8 - τ.ival 6).toNat; rw [(ag.val 6 (by decide)).1]) (fun _ _ => rows_nil) ?_ (fun τ e ht hi hj => geB_ob τ e ht hi hj)
  refine Stage.seg (q2 := 2) (ins2 := [some .u8, some .u8]) (S2 := geS2) (J2 := fun _ => True) mixed geC_seg ⟨rfl, rfl⟩ geJ4_agree (fun _ _ => rows_nil) ?_ (fun τ e ht hi hj => geC_ob τ e ht hi hj)
  refine Stage.seg (q2 := 3) (ins2 := [some .u8, some .u8, some .u8]) (S2 := geS3) (J2 := geJ3) mixed geD_seg ⟨rfl, rfl⟩ (fun _ _ _ _ => trivial) (fun _ _ => rows_nil) ?_ (fun τ e ht hi _ => geD_ob τ e ht hi)
  exact Stage.last mixed geE_seg ⟨rfl, rfl⟩ geJ3_agree (fun _ _ => rows_nil) (fun τ e ht hi hj => geE_ob τ e ht hi hj)

section
variable {H : Type} {enc : TypeId × Value → H} {P : Program}
theorem post_of_below {f : Func} {s : ChangeSpec} {apart fresh handsOn again : Bool} {W W' : World} {args : Array Value} {v : Value} {ds gs : List (DataW H)} {before pa pv : List MemPlace}
    (hW : DataW.Whole enc P f.params.toList s.vars apart W args.toList ds gs before)
    (hres : ∀ (b : Nat) (sp : Nat → Bool) (hd : Bool), DataW.TrodAll enc P W' b sp hd f.resultTypes.toList (v.resultList f.resultTypes.size) (s.fn H (ds ++ gs)).results [])
    (hargs : ∀ sp : Nat → Bool, (∀ p ∈ before, sp p.block = true) → DataW.TrodAll enc P W' 0 sp true f.params.toList args.toList (s.fn H (ds ++ gs)).args pa)
    (hvars : ∀ sp : Nat → Bool, (∀ p ∈ before, sp p.block = true) → DataW.TrodVars enc P W' sp s.vars (s.fn H (ds ++ gs)).vars pv)
    (hps : before = pa ++ pv) (hb : Below W.heap.size W W')
    (hok : ∀ (j : Nat) (t : TypeId) (r : Value), f.resultTypes[j]? = some t → (v.resultList f.resultTypes.size)[j]? = some r → Value.okWide P W' .any 0 t r) :
    s.post enc P f apart fresh handsOn again W args v W' := by
  have hlt : ∀ p ∈ before, p.block < W.heap.size := fun p hp => hW.lt p hp
  have hold : ∀ p ∈ before, (fun b => decide (b < W.heap.size)) p.block = true := fun p hp => by simpa using hlt p hp
  refine ⟨ds, gs, before, [], pa, pv, hW, hres _ _ _, hargs _ hold, hvars _ hold, World.keptBut_mono (fun p hp => ⟨hp, ?_⟩) (hb.frame (· ∈ before)), fun _ => ?_⟩
  · rw [hps, List.mem_append] at hp
    exact Or.inr hp
  · obtain ⟨_, _, _, _, _, hz, hn⟩ := hW
    refine ⟨hok, _, _, ([] ++ pa) ++ pv, ⟨[] ++ pa, pv, trodAll_append (hargs _ (fun _ _ => rfl)) (hres _ _ _), hvars _ (fun _ _ => rfl), rfl, ?_, ?_⟩, ?_⟩
    · intro b off hp
      have hin : MemPlace.cell b off ∈ before := by rw [hps]; simpa using hp
      rw [hb.frozen (hlt _ hin)]
      exact hz b off hin
    · intro ha
      have := hn ha
      rw [hps] at this
      simpa using this
    · intro p hp _
      rw [hps]
      simpa using hp
end

theorem flat5 : flat Try.prog 6 5 = some [.i .u8] := by kernel_rfl
theorem agg5 : Ev.isAgg Try.prog 5 = false := by kernel_rfl
theorem flat61 : flat Try.prog 6 61 = some [.i .u8, .i .u8, .i .u8] := by kernel_rfl
theorem agg61 : Ev.isAgg Try.prog 61 = true := by kernel_rfl

set_option maxRecDepth 100000 in
theorem lifted (os : Os) (started : os.Started) (H : Type) (enc : TypeId × Value → H) :
    ReturnsInHanded {} Try.checked os 7 .any (Rows.gpioEdgesSpec.pre6 enc Try.prog Try.f7 Rows.gpioEdgesRow.domain false) (Rows.gpioEdgesSpec.post enc Try.prog Try.f7 false true false false) := by
  refine returnsInHanded_of_change (C := Try.checked) own started (by kernel_rfl) Try.func7
    (ChangeSpec.witness6 (enc := enc) (C := Try.checked) false ⟨#[], #[.int .u8 0, .int .u8 0, .agg #[.int .u8 0, .int .u8 0, .int .u8 0]], []⟩ 8 (by kernel_rfl) (by kernel_rfl) (by kernel_rfl) (by kernel_rfl)) ?_
  intro W base args ds gs before hval0 hW hcnd _
  have hval : ∀ (j : Nat) t v, Try.f7.params[j]? = some t → args[j]? = some v → Value.okWide Try.prog W .any base t v := hval0
  have hW' := hW
  obtain ⟨p, q, hA0, hV, rfl, hfz, hnd⟩ := hW
  have hA : DataW.TrodAll enc Try.prog W 0 (fun _ => true) true Try.f7.params.toList args.toList ds p := hA0
  rw [Try.params7] at hA hval
  obtain ⟨v0, vs0, d0, ds0, p0, q0, hargs, rfl, rfl, h0, r0⟩ := trodAll_cons hA
  obtain ⟨v1, vs1, d1, ds1, p1, q1, rfl, rfl, rfl, h1, r1⟩ := trodAll_cons r0
  obtain ⟨v2, vs2, d2, ds2, p2, q2, rfl, rfl, rfl, h2, r2⟩ := trodAll_cons r1
  obtain ⟨rfl, rfl, rfl⟩ := trodAll_nil r2
  obtain rfl : args = #[v0, v1, v2] := by cases args; simp_all
  obtain ⟨rfl, rfl⟩ := trodVars_none hV
  obtain ⟨x0, i0, rfl, rfl⟩ := open_one flat5 agg5 (hval 0 5 v0 rfl rfl) h0
  obtain ⟨x1, i1, rfl, rfl⟩ := open_one flat5 agg5 (hval 1 5 v1 rfl rfl) h1
  obtain ⟨l2, i2, rfl, rfl⟩ := open_agg flat61 agg61 (hval 2 61 v2 rfl rfl) h2
  clear hA0 hval0
  simp only [List.append_nil] at hW'
  have hc := holds ([x0] ++ ([x1] ++ (l2 ++ []))) (inR_append i0 (inR_append i1 (inR_append i2 rfl))) W
  rw [show encS geSs ([x0] ++ ([x1] ++ (l2 ++ []))) = [encC (.i .u8) x0, encC (.i .u8) x1, .agg (encCs [.i .u8, .i .u8, .i .u8] l2).toArray] from by
    simp only [geSs]
    show encC (.i .u8) x0 :: encC (.i .u8) x1 :: encS [.agg [.i .u8, .i .u8, .i .u8]] (l2 ++ ([])) = _
    rw [encS_agg i2]
    rfl] at hc
  refine hc.mono fun e W' ⟨he, hg⟩ => ?_
  subst he
  exact ⟨_, rfl, post_of_below (pa := []) (pv := []) hW' (fun _ _ _ => (trodAll_cons_mk (shut_bool Try.underlying4 _) trodAll_mk0)) (fun sp _ => (trodAll_cons_mk (shut_flat flat5 h0) (trodAll_cons_mk (shut_flat flat5 h1) (trodAll_cons_mk (shut_flat flat61 h2) trodAll_mk0)))) (fun _ _ => rfl) rfl
    hg (ok_one (by kernel_rfl) rfl (okWide_bool_mk Try.underlying4 _))⟩

theorem over : Rows.gpioEdgesRow.holds Try.pinned (OpenSpec.ofChange Rows.gpioEdgesSpec) :=
  OpenClaim.holds_of_wide 7 Try.f7 rfl rfl rfl rfl rfl rfl rfl ⟨rfl, rfl, rfl, rfl, rfl⟩ rfl rfl rfl rfl rfl (by kernel_rfl) Try.func7 (by kernel_rfl)
    (of_decide_eq_true (by kernel_rfl)) (by unfold Func.isWrapper; first | (rw [if_pos (by decide +kernel)]; kernel_rfl) | (rw [if_neg (by decide +kernel)]; exact ⟨rfl, rfl⟩))
    (fun os started H enc _ => lifted os started H enc)

/-- THE STATEMENT -/
theorem proved : Rows.GpioEdgesSaid :=
  over
#print axioms proved
end Go.Proofs.Ytgifnmiggloclaa.gpioEdges
