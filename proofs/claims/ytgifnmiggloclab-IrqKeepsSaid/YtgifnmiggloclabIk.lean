/-
  The pieces of IrqKeeps, reckoned: its acts in stages, with unknown counters.
  No conditions.
-/
import Derived.Test.YtgifnmiggloclabRows
import Derived.Test.YtgifnmiggloclabChecked
import Derived.WalkKit
import Derived.ProofKit
import Derived.OpenShut
import Derived.Below
import Derived.ChangeSame
import Derived.Test.YtgifnmiggloclabCq
import Derived.Test.YtgifnmiggloclabEwZl
namespace Go.Proofs.Ytgifnmiggloclab.ik
open Go.ChangeShapes Go.WideShapes Go.ChangeAt Go.RowKit
open Go.Ev Go.Proofs.Ytgifnmiggloclab.ck Go.Proofs.Ytgifnmiggloclab.cb
set_option linter.unusedVariables false
set_option linter.unusedSimpArgs false

theorem works_run : isTrue ((evD Try.prog (cxOf noIng) true 1000 40).1 [] 13 [] ⟨[], []⟩) = true := by kernel_rfl
theorem works_contract : FnOk Try.prog 13 [] [.one .b] (fun _ => [1]) := fun l hl w => closed_hook ⟨rfl, rfl, rfl, rfl, rfl, rfl⟩ (hm := ck.mixed) (hh := fun F => no_hooks rfl F) (h := works_run) (w := w)
def ckFs : Nat → List Int → List Int := fun _ => chooseF
def ikTbl : List Ent := [⟨16, ckIns, ckOuts, 0⟩]
def ikTru : List Ent := [⟨13, [], [.one .b], 0⟩]
def ikSs : List Sh := [.agg [.i .u8, .i .u8, .i .u8, .i .u8, .i .u8, .i .u8, .i .u8, .i .u8]]
def ikPr (j : Nat) : Blk := .cells [.symi .i64 j, .symi .i64 (j + 1), .symi .i64 (j + 2), .symi .i64 (j + 3), .symi .i64 (j + 4), .symi .i64 (j + 5), .symi .i64 (j + 6), .symi .i64 (j + 7)] 25
def ikH : List Blk := [ikPr 5, .cells [.symi .u8 2, .symi .u8 3] 27]
def ikB : List (Nat × AVal) := [(1, .row 0), (5, .ptr 0 0), (7, .ptr 1 0), (8, .symi .u8 3), (9, .symi .u8 2), (10, .symi .u8 4), (11, .symi .i64 0)]
def ikS0 : Shape := ⟨argT 0 (symSh ikSs 0 ++ [.row 0]), []⟩
def ikS1 : Shape := ⟨ikB, ikH⟩
def ikS2 : Shape := ⟨(12, .symi .u8 14) :: (57, .symi .u8 16) :: ikB, ikH⟩
def ikS3 : Shape := ⟨(12, .symi .u8 14) :: (57, .symi .u8 16) :: (133, .symb 17) :: ikB, ikH⟩
def ikS4 (t : Nat) : Shape := ⟨(12, .symi .u8 14) :: (57, .symi .u8 16) :: (t, .symb 17) :: ikB, ikH⟩
def ikS6 : Shape := ⟨(13, .symi .i64 13) :: (14, .symi .i64 14) :: (15, .symb 15) :: (16, .symi .u8 16) :: (17, .symi .i64 17) :: ikB, ikH⟩
def ikS7 : Shape := ⟨(14, .symi .i64 13) :: (15, .symb 14) :: ikB, ikH⟩
def ikSX : Shape := ⟨[(5, .ptr 0 0), (7, .ptr 1 0), (8, .symi .u8 1)], [ikPr 2, .cells [.symi .u8 0, .symi .u8 1] 27]⟩
def ikS8 : Shape := ⟨[(5, .ptr 0 0), (7, .ptr 1 0), (18, .symi .i64 1), (19, .symi .u8 2), (20, .symi .i64 0)], [ikPr 3, .cells [.int .u8 255, .symi .u8 2] 27]⟩
def ikS9 : Shape := ⟨[(5, .ptr 0 0), (7, .ptr 1 0), (19, .symi .u8 0)], [ikPr 1, .cells [.int .u8 255, .symi .u8 0] 27]⟩
def ikS10 : Shape := ⟨[(5, .ptr 0 0), (7, .ptr 1 0), (19, .symi .u8 0), (23, .symi .i64 9)], [ikPr 1, .cells [.int .u8 255, .symi .u8 0] 27]⟩
def ikS11 : Shape := ⟨[(7, .ptr 0 0), (19, .symi .u8 0)], [.cells [.int .u8 255, .symi .u8 0] 27]⟩
def ikSE : Shape := ⟨[(4, .symb 0)], []⟩
def ikP8 : List (Option IntKind) := [some .i64, some .i64, some .i64, some .i64, some .i64, some .i64, some .i64, some .i64]
def ikK1 : List (Option IntKind) := [some .i64, some .i64, some .u8, some .u8, some .u8] ++ ikP8
def ikKe : List (Option IntKind) := ikK1 ++ [some .u8, some .u8, some .u8]
def ikK2 : List (Option IntKind) := ikKe ++ [some .u8]
def ikK3 : List (Option IntKind) := ikKe ++ [some .u8, none]
def ikK6 : List (Option IntKind) := ikK1 ++ [some .i64, some .i64, none, some .u8, some .i64]
def ikK7 : List (Option IntKind) := ikK1 ++ [some .i64, none]
def ikKdX : List (Option IntKind) := [some .u8, some .u8] ++ ikP8
def ikK8 : List (Option IntKind) := [some .i64, some .i64, some .u8] ++ ikP8
def ikK9 : List (Option IntKind) := some .u8 :: ikP8
def ikK10 : List (Option IntKind) := some .u8 :: ikP8 ++ [some .i64]
def ikRow : RowS := ⟨.symi .i64 1, [(.symi .i64 0, elCells 13 [.i .u8, .i .u8, .i .u8])]⟩

theorem ik_tru : ∀ e, e ∈ ikTru → FnOk Try.prog e.f e.ins [.one .b] (fun _ => [1]) := by
  intro e he
  simp only [ikTru, List.mem_singleton] at he
  subst he
  exact works_contract
theorem ik_all : ∀ e, e ∈ ikTbl → (cellsOf e.outs).length ≤ 64 ∧ FnOk Try.prog e.f e.ins e.outs (ckFs e.id) := by
  intro e he
  simp only [ikTbl, List.mem_singleton] at he
  subst he
  exact ⟨by decide, choose_contract⟩
def ikFf : Bm := [(0, 0), (1, 0)]
def ikLi (a : AVal) : Asg := [(13, .symi .i64 13), (14, .symi .i64 14), (15, .symb 15), (16, .symi .u8 16), (17, a), (3, .symi .u8 3), (2, .symi .u8 2), (4, .symi .u8 4), (0, .symi .i64 0), (5, .symi .i64 5), (6, .symi .i64 6), (7, .symi .i64 7), (8, .symi .i64 8), (9, .symi .i64 9), (10, .symi .i64 10), (11, .symi .i64 11), (12, .symi .i64 12), (2, .symi .u8 2), (3, .symi .u8 3)]
def ikA0 : Asg := [(3, .symi .u8 3), (2, .symi .u8 2), (4, .symi .u8 4), (0, .symi .i64 0), (5, .symi .i64 5), (6, .symi .i64 6), (7, .symi .i64 7), (8, .symi .i64 8), (9, .symi .i64 9), (10, .symi .i64 10), (11, .symi .i64 11), (12, .symi .i64 12), (2, .symi .u8 2), (3, .symi .u8 3)]
def ikA1 : Asg := [(1, .symi .u8 3), (2, .symi .i64 5), (3, .symi .i64 6), (4, .symi .i64 7), (5, .symi .i64 8), (6, .symi .i64 9), (7, .symi .i64 10), (8, .symi .i64 11), (9, .symi .i64 12), (0, .symi .u8 2), (1, .symi .u8 3)]
def ikA2 : Asg := [(1, .symi .i64 1), (13, .symi .u8 13), (15, .symi .u8 15)]
def ikA3 : Asg := [(14, .symi .u8 14), (16, .symi .u8 16), (17, .symb 18), (3, .symi .u8 3), (2, .symi .u8 2), (4, .symi .u8 4), (0, .symi .i64 0), (5, .symi .i64 5), (6, .symi .i64 6), (7, .symi .i64 7), (8, .symi .i64 8), (9, .symi .i64 9), (10, .symi .i64 10), (11, .symi .i64 11), (12, .symi .i64 12), (2, .symi .u8 2), (3, .symi .u8 3)]
def ikA4 : Asg := [(3, .symi .u8 18), (2, .symi .u8 2), (4, .symi .u8 4), (0, .symi .i64 0), (5, .symi .i64 5), (6, .symi .i64 6), (7, .symi .i64 7), (8, .symi .i64 8), (9, .symi .i64 9), (10, .symi .i64 10), (11, .symi .i64 11), (12, .symi .i64 12), (2, .symi .u8 2), (3, .symi .u8 18)]
def ikA5 : Asg := [(1, .symi .i64 1)]
def ikA6 : Asg := [(0, .symi .u8 0), (9, .int .i64 1), (1, .symi .i64 1), (2, .symi .i64 2), (3, .symi .i64 3), (4, .symi .i64 4), (5, .symi .i64 5), (6, .symi .i64 6), (7, .symi .i64 7), (8, .symi .i64 8), (0, .symi .u8 0)]
def ikA7 : Asg := [(0, .symi .u8 0), (9, .int .i64 2), (1, .symi .i64 1), (2, .symi .i64 2), (3, .symi .i64 3), (4, .symi .i64 4), (5, .symi .i64 5), (6, .symi .i64 6), (7, .symi .i64 7), (8, .symi .i64 8), (0, .symi .u8 0)]
def ikA8 : Asg := [(0, .symi .u8 0), (9, .int .i64 3), (1, .symi .i64 1), (2, .symi .i64 2), (3, .symi .i64 3), (4, .symi .i64 4), (5, .symi .i64 5), (6, .symi .i64 6), (7, .symi .i64 7), (8, .symi .i64 8), (0, .symi .u8 0)]
def ikA9 : Asg := [(0, .symi .u8 0), (9, .int .i64 4), (1, .symi .i64 1), (2, .symi .i64 2), (3, .symi .i64 3), (4, .symi .i64 4), (5, .symi .i64 5), (6, .symi .i64 6), (7, .symi .i64 7), (8, .symi .i64 8), (0, .symi .u8 0)]
def ikA10 : Asg := [(0, .symi .u8 0), (9, .int .i64 5), (1, .symi .i64 1), (2, .symi .i64 2), (3, .symi .i64 3), (4, .symi .i64 4), (5, .symi .i64 5), (6, .symi .i64 6), (7, .symi .i64 7), (8, .symi .i64 8), (0, .symi .u8 0)]
def ikA11 : Asg := [(0, .symi .u8 0), (9, .int .i64 6), (1, .symi .i64 1), (2, .symi .i64 2), (3, .symi .i64 3), (4, .symi .i64 4), (5, .symi .i64 5), (6, .symi .i64 6), (7, .symi .i64 7), (8, .symi .i64 8), (0, .symi .u8 0)]
def ikA12 : Asg := [(0, .symi .u8 0), (9, .int .i64 7), (1, .symi .i64 1), (2, .symi .i64 2), (3, .symi .i64 3), (4, .symi .i64 4), (5, .symi .i64 5), (6, .symi .i64 6), (7, .symi .i64 7), (8, .symi .i64 8), (0, .symi .u8 0)]
def ikA13 : Asg := [(0, .symi .u8 0), (9, .int .i64 8), (1, .symi .i64 1), (2, .symi .i64 2), (3, .symi .i64 3), (4, .symi .i64 4), (5, .symi .i64 5), (6, .symi .i64 6), (7, .symi .i64 7), (8, .symi .i64 8), (0, .symi .u8 0)]
set_option maxRecDepth 100000 in
def ikAG : List SDef := [.bin .rem (.symi .u8 0) (.int .u8 8),
  .conv .i64 (.symi .u8 9),
  .bin .rem (.symi .u8 1) (.int .u8 8),
  .conv .i64 (.symi .u8 11),
  .bin .rem (.symi .u8 2) (.int .u8 8),
  .conv .i64 (.symi .u8 13),
  .bin .rem (.symi .u8 3) (.int .u8 8),
  .conv .i64 (.symi .u8 15),
  .bin .rem (.symi .u8 4) (.int .u8 8),
  .conv .i64 (.symi .u8 17),
  .bin .rem (.symi .u8 5) (.int .u8 8),
  .conv .i64 (.symi .u8 19),
  .bin .rem (.symi .u8 6) (.int .u8 8),
  .conv .i64 (.symi .u8 21),
  .bin .rem (.symi .u8 7) (.int .u8 8),
  .conv .i64 (.symi .u8 23)]

def ikAT : LT := .n (.n (.n (.n (.n (.e) 410625 9 (.bin .rem (.symi .u8 0) (.int .u8 8)) (.e)) 15523167 22 (.conv .i64 (.symi .u8 21)) (.e)) 59261904 12 (.conv .i64 (.symi .u8 11)) (.n (.e) 101410928 11 (.bin .rem (.symi .u8 1) (.int .u8 8)) (.e))) 202411231 13 (.bin .rem (.symi .u8 2) (.int .u8 8)) (.n (.n (.e) 221523785 24 (.conv .i64 (.symi .u8 23)) (.e)) 265262522 14 (.conv .i64 (.symi .u8 13)) (.n (.e) 303411534 15 (.bin .rem (.symi .u8 3) (.int .u8 8)) (.e)))) 404411837 17 (.bin .rem (.symi .u8 4) (.int .u8 8)) (.n (.n (.n (.e) 471263140 16 (.conv .i64 (.symi .u8 15)) (.e)) 505412140 19 (.bin .rem (.symi .u8 5) (.int .u8 8)) (.n (.e) 606412443 21 (.bin .rem (.symi .u8 6) (.int .u8 8)) (.e))) 677263758 18 (.conv .i64 (.symi .u8 17)) (.n (.n (.e) 707412746 23 (.bin .rem (.symi .u8 7) (.int .u8 8)) (.e)) 883264376 20 (.conv .i64 (.symi .u8 19)) (.n (.e) 927003113 10 (.conv .i64 (.symi .u8 9)) (.e))))

def ikAW : Sw := .run (.leaf .normal ikS1 [(1, 0), (2, 0)] [(3, .int .u8 0), (2, .int .u8 0), (4, .int .u8 0), (0, .int .i64 0), (5, .symi .i64 10), (6, .symi .i64 12), (7, .symi .i64 14), (8, .symi .i64 16), (9, .symi .i64 18), (10, .symi .i64 20), (11, .symi .i64 22), (12, .symi .i64 24), (2, .int .u8 0), (3, .int .u8 0)] [(1, .symi .i64 8)])
set_option maxRecDepth 100000 in
def ikBG : List SDef := [.bin .lss (.symi .i64 0) (.symi .i64 1),
  .bin .lss (.symi .i64 0) (.int .i64 100)]

def ikBT : LT := .n (.n (.e) 5013908 17 (.bin .lss (.symi .i64 0) (.int .i64 100)) (.e)) 343384000 16 (.bin .lss (.symi .i64 0) (.symi .i64 1)) (.e)

def ikBW : Sw := .run (.node 16 (.node 17 (.leaf .normal ikS1 ikFf ikA0 [(1, .symi .i64 1), (13, .symi .u8 13), (14, .symi .u8 14), (15, .symi .u8 15)]) (.leaf (.exit 2) ikSX ikFf ikA1 [])) (.leaf (.exit 2) ikSX ikFf ikA1 []))
set_option maxRecDepth 100000 in
def ikCG : List SDef := [.bin .leq (.int .i64 0) (.symi .i64 0),
  .bin .lss (.symi .i64 0) (.symi .i64 1),
  .bin .rem (.symi .u8 13) (.int .u8 10)]

def ikCT : LT := .n (.n (.e) 30227 16 (.bin .leq (.int .i64 0) (.symi .i64 0)) (.e)) 239772807 18 (.bin .rem (.symi .u8 13) (.int .u8 10)) (.n (.e) 343384000 17 (.bin .lss (.symi .i64 0) (.symi .i64 1)) (.e))

def ikCW : Sw := .run (.node 16 (.node 17 (.leaf .normal ikS2 ikFf [(14, .symi .u8 14), (16, .symi .u8 18), (3, .symi .u8 3), (2, .symi .u8 2), (4, .symi .u8 4), (0, .symi .i64 0), (5, .symi .i64 5), (6, .symi .i64 6), (7, .symi .i64 7), (8, .symi .i64 8), (9, .symi .i64 9), (10, .symi .i64 10), (11, .symi .i64 11), (12, .symi .i64 12), (2, .symi .u8 2), (3, .symi .u8 3)] ikA2) (.dead)) (.dead))
set_option maxRecDepth 100000 in
def ikDG : List SDef := [.bin .eql (.symi .u8 16) (.int .u8 0),
  .bin .eql (.symi .u8 16) (.int .u8 1),
  .bin .eql (.symi .u8 16) (.int .u8 2)]

def ikDT : LT := .n (.n (.e) 542273415 17 (.bin .eql (.symi .u8 16) (.int .u8 0)) (.e)) 542323450 18 (.bin .eql (.symi .u8 16) (.int .u8 1)) (.n (.e) 542373485 19 (.bin .eql (.symi .u8 16) (.int .u8 2)) (.e))

def ikDW : Sw := .run (.node 17 (.leaf .normal ikS3 ikFf [(14, .symi .u8 14), (16, .symi .u8 16), (17, .symb 17), (3, .symi .u8 3), (2, .symi .u8 2), (4, .symi .u8 4), (0, .symi .i64 0), (5, .symi .i64 5), (6, .symi .i64 6), (7, .symi .i64 7), (8, .symi .i64 8), (9, .symi .i64 9), (10, .symi .i64 10), (11, .symi .i64 11), (12, .symi .i64 12), (2, .symi .u8 2), (3, .symi .u8 3)] ikA2) (.node 18 (.leaf .normal ikS3 ikFf ikA3 ikA2) (.leaf .normal ikS3 ikFf [(14, .symi .u8 14), (16, .symi .u8 16), (17, .symb 19), (3, .symi .u8 3), (2, .symi .u8 2), (4, .symi .u8 4), (0, .symi .i64 0), (5, .symi .i64 5), (6, .symi .i64 6), (7, .symi .i64 7), (8, .symi .i64 8), (9, .symi .i64 9), (10, .symi .i64 10), (11, .symi .i64 11), (12, .symi .i64 12), (2, .symi .u8 2), (3, .symi .u8 3)] ikA2)))
set_option maxRecDepth 100000 in
def ikEG : List SDef := [.bin .or (.symi .u8 3) (.symi .u8 14)]

def ikET : LT := .n (.e) 815014066 18 (.bin .or (.symi .u8 3) (.symi .u8 14)) (.e)

def ikEW : Sw := .run (.leaf .normal ikS1 ikFf ikA4 ikA5)
set_option maxRecDepth 100000 in
def ikF1G : List SDef := [.bin .eql (.symi .u8 16) (.int .u8 3)]

def ikF1T : LT := .n (.e) 542423520 18 (.bin .eql (.symi .u8 16) (.int .u8 3)) (.e)

def ikF1W : Sw := .run (.leaf .normal (ikS4 143) ikFf ikA3 ikA2)
set_option maxRecDepth 100000 in
def ikF2G : List SDef := [.bin .eql (.symi .u8 16) (.int .u8 4)]

def ikF2T : LT := .n (.e) 542473555 18 (.bin .eql (.symi .u8 16) (.int .u8 4)) (.e)

def ikF2W : Sw := .run (.leaf .normal (ikS4 151) ikFf ikA3 ikA2)
set_option maxRecDepth 100000 in
def ikF3G : List SDef := [.bin .eql (.symi .u8 16) (.int .u8 5)]

def ikF3T : LT := .n (.e) 542523590 18 (.bin .eql (.symi .u8 16) (.int .u8 5)) (.e)

def ikF3W : Sw := .run (.leaf .normal (ikS4 160) ikFf ikA3 ikA2)
set_option maxRecDepth 100000 in
def ikG1G : List SDef := [.conv .i32 (.symi .u8 14),
  .bin .add (.symi .i32 18) (.int .i32 256),
  .conv .u8 (.symi .i32 19)]

def ikG1T : LT := .n (.n (.e) 368262831 18 (.conv .i32 (.symi .u8 14)) (.e)) 757082904 19 (.bin .add (.symi .i32 18) (.int .i32 256)) (.n (.e) 883264376 20 (.conv .u8 (.symi .i32 19)) (.e))

def ikG1W : Sw := .run (.leafE .normal ikS1 ikFf [(3, .symi .u8 3), (2, .symi .u8 14), (4, .symi .u8 4), (0, .symi .i64 0), (5, .symi .i64 5), (6, .symi .i64 6), (7, .symi .i64 7), (8, .symi .i64 8), (9, .symi .i64 9), (10, .symi .i64 10), (11, .symi .i64 11), (12, .symi .i64 12), (2, .symi .u8 20), (3, .symi .u8 3)] ikA5)
set_option maxRecDepth 100000 in
def ikG2G : List SDef := [.conv .i32 (.symi .u8 14),
  .conv .u8 (.symi .i32 18),
  .bin .andNot (.symi .u8 3) (.symi .u8 19),
  .bin .andNot (.symi .u8 3) (.symi .u8 14)]

def ikG2T : LT := .n (.n (.n (.e) 368262831 18 (.conv .i32 (.symi .u8 14)) (.e)) 384298330 20 (.bin .andNot (.symi .u8 3) (.symi .u8 19)) (.e)) 780264067 19 (.conv .u8 (.symi .i32 18)) (.n (.e) 815014094 21 (.bin .andNot (.symi .u8 3) (.symi .u8 14)) (.e))

def ikG2W : Sw := .run (.leafE .normal ikS1 ikFf [(3, .symi .u8 21), (2, .symi .u8 2), (4, .symi .u8 4), (0, .symi .i64 0), (5, .symi .i64 5), (6, .symi .i64 6), (7, .symi .i64 7), (8, .symi .i64 8), (9, .symi .i64 9), (10, .symi .i64 10), (11, .symi .i64 11), (12, .symi .i64 12), (2, .symi .u8 2), (3, .symi .u8 20)] ikA5)
set_option maxRecDepth 100000 in
def ikG3G : List SDef := []

def ikG3T : LT := .e

def ikG3W : Sw := .run (.leaf .normal ikS1 ikFf [(3, .symi .u8 3), (2, .symi .u8 2), (4, .symi .u8 14), (0, .symi .i64 0), (5, .symi .i64 5), (6, .symi .i64 6), (7, .symi .i64 7), (8, .symi .i64 8), (9, .symi .i64 9), (10, .symi .i64 10), (11, .symi .i64 11), (12, .symi .i64 12), (2, .symi .u8 2), (3, .symi .u8 3)] ikA5)
def ikL0 : List AVal := [.symi .u8 2, .symi .u8 3, .symi .i64 5, .symi .i64 6, .symi .i64 7, .symi .i64 8, .symi .i64 9, .symi .i64 10, .symi .i64 11, .symi .i64 12, .symi .i64 21, .int .i64 0, .symi .u8 4]
set_option maxRecDepth 100000 in
def ikHG : List SDef := [.bin .leq (.int .i64 0) (.symi .i64 0),
  .bin .lss (.symi .i64 0) (.symi .i64 1),
  .bin .rem (.symi .u8 15) (.int .u8 9),
  .conv .i64 (.symi .u8 20),
  .fn 0 .i64 ikL0,
  .fnb 1 ikL0,
  .bin .and (.symi .u8 3) (.symi .u8 2),
  .bin .andNot (.symi .u8 24) (.symi .u8 4)]

def ikHT : LT := .n (.n (.n (.n (.e) 30227 18 (.bin .leq (.int .i64 0) (.symi .i64 0)) (.e)) 343384000 19 (.bin .lss (.symi .i64 0) (.symi .i64 1)) (.e)) 408650501 22 (.fn 0 .i64 ikL0) (.n (.e) 441723378 20 (.bin .rem (.symi .u8 15) (.int .u8 9)) (.e))) 576226504 25 (.bin .andNot (.symi .u8 24) (.symi .u8 4)) (.n (.n (.e) 828996003 23 (.fnb 1 ikL0) (.e)) 986264685 21 (.conv .i64 (.symi .u8 20)) (.n (.e) 989738431 24 (.bin .and (.symi .u8 3) (.symi .u8 2)) (.e)))

def ikHW : Sw := .run (.node 18 (.node 19 (.leaf .normal ikS6 ikFf [(13, .symi .i64 21), (14, .symi .i64 22), (15, .symb 23), (16, .symi .u8 25), (17, .int .i64 0), (3, .symi .u8 3), (2, .symi .u8 2), (4, .symi .u8 4), (0, .symi .i64 0), (5, .symi .i64 5), (6, .symi .i64 6), (7, .symi .i64 7), (8, .symi .i64 8), (9, .symi .i64 9), (10, .symi .i64 10), (11, .symi .i64 11), (12, .symi .i64 12), (2, .symi .u8 2), (3, .symi .u8 3)] ikA5) (.dead)) (.dead))
set_option maxRecDepth 100000 in
def ikIG : List SDef := [.bin .shr (.symi .u8 16) (.int .i64 0),
  .bin .rem (.symi .u8 18) (.int .u8 2),
  .bin .eql (.symi .u8 19) (.int .u8 0),
  .bin .leq (.symi .i64 5) (.symi .i64 13),
  .bin .eql (.symi .i64 14) (.int .i64 0),
  .un .not (.symb 15),
  .bin .gtr (.symi .i64 5) (.symi .i64 6),
  .bin .eql (.symi .i64 5) (.symi .i64 6),
  .bin .gtr (.symi .i64 5) (.symi .i64 7),
  .bin .eql (.symi .i64 5) (.symi .i64 7),
  .bin .gtr (.symi .i64 5) (.symi .i64 8),
  .bin .eql (.symi .i64 5) (.symi .i64 8),
  .bin .gtr (.symi .i64 5) (.symi .i64 9),
  .bin .eql (.symi .i64 5) (.symi .i64 9),
  .bin .gtr (.symi .i64 5) (.symi .i64 10),
  .bin .eql (.symi .i64 5) (.symi .i64 10),
  .bin .gtr (.symi .i64 5) (.symi .i64 11),
  .bin .eql (.symi .i64 5) (.symi .i64 11),
  .bin .gtr (.symi .i64 5) (.symi .i64 12),
  .bin .eql (.symi .i64 5) (.symi .i64 12),
  .bin .shr (.symi .u8 16) (.int .i64 1),
  .bin .rem (.symi .u8 38) (.int .u8 2),
  .bin .eql (.symi .u8 39) (.int .u8 0),
  .bin .leq (.symi .i64 6) (.symi .i64 13),
  .bin .eql (.symi .i64 14) (.int .i64 1),
  .bin .gtr (.symi .i64 6) (.symi .i64 5),
  .bin .eql (.symi .i64 6) (.symi .i64 5),
  .bin .gtr (.symi .i64 6) (.symi .i64 7),
  .bin .eql (.symi .i64 6) (.symi .i64 7),
  .bin .gtr (.symi .i64 6) (.symi .i64 8),
  .bin .eql (.symi .i64 6) (.symi .i64 8),
  .bin .gtr (.symi .i64 6) (.symi .i64 9),
  .bin .eql (.symi .i64 6) (.symi .i64 9),
  .bin .gtr (.symi .i64 6) (.symi .i64 10),
  .bin .eql (.symi .i64 6) (.symi .i64 10),
  .bin .gtr (.symi .i64 6) (.symi .i64 11),
  .bin .eql (.symi .i64 6) (.symi .i64 11),
  .bin .gtr (.symi .i64 6) (.symi .i64 12),
  .bin .eql (.symi .i64 6) (.symi .i64 12),
  .bin .shr (.symi .u8 16) (.int .i64 2),
  .bin .rem (.symi .u8 57) (.int .u8 2),
  .bin .eql (.symi .u8 58) (.int .u8 0),
  .bin .leq (.symi .i64 7) (.symi .i64 13),
  .bin .eql (.symi .i64 14) (.int .i64 2),
  .bin .gtr (.symi .i64 7) (.symi .i64 5),
  .bin .eql (.symi .i64 7) (.symi .i64 5),
  .bin .gtr (.symi .i64 7) (.symi .i64 6),
  .bin .eql (.symi .i64 7) (.symi .i64 6),
  .bin .gtr (.symi .i64 7) (.symi .i64 8),
  .bin .eql (.symi .i64 7) (.symi .i64 8),
  .bin .gtr (.symi .i64 7) (.symi .i64 9),
  .bin .eql (.symi .i64 7) (.symi .i64 9),
  .bin .gtr (.symi .i64 7) (.symi .i64 10),
  .bin .eql (.symi .i64 7) (.symi .i64 10),
  .bin .gtr (.symi .i64 7) (.symi .i64 11),
  .bin .eql (.symi .i64 7) (.symi .i64 11),
  .bin .gtr (.symi .i64 7) (.symi .i64 12),
  .bin .eql (.symi .i64 7) (.symi .i64 12),
  .bin .shr (.symi .u8 16) (.int .i64 3),
  .bin .rem (.symi .u8 76) (.int .u8 2),
  .bin .eql (.symi .u8 77) (.int .u8 0),
  .bin .leq (.symi .i64 8) (.symi .i64 13),
  .bin .eql (.symi .i64 14) (.int .i64 3),
  .bin .gtr (.symi .i64 8) (.symi .i64 5),
  .bin .eql (.symi .i64 8) (.symi .i64 5),
  .bin .gtr (.symi .i64 8) (.symi .i64 6),
  .bin .eql (.symi .i64 8) (.symi .i64 6),
  .bin .gtr (.symi .i64 8) (.symi .i64 7),
  .bin .eql (.symi .i64 8) (.symi .i64 7),
  .bin .gtr (.symi .i64 8) (.symi .i64 9),
  .bin .eql (.symi .i64 8) (.symi .i64 9),
  .bin .gtr (.symi .i64 8) (.symi .i64 10),
  .bin .eql (.symi .i64 8) (.symi .i64 10),
  .bin .gtr (.symi .i64 8) (.symi .i64 11),
  .bin .eql (.symi .i64 8) (.symi .i64 11),
  .bin .gtr (.symi .i64 8) (.symi .i64 12),
  .bin .eql (.symi .i64 8) (.symi .i64 12),
  .bin .shr (.symi .u8 16) (.int .i64 4),
  .bin .rem (.symi .u8 95) (.int .u8 2),
  .bin .eql (.symi .u8 96) (.int .u8 0),
  .bin .leq (.symi .i64 9) (.symi .i64 13),
  .bin .eql (.symi .i64 14) (.int .i64 4),
  .bin .gtr (.symi .i64 9) (.symi .i64 5),
  .bin .eql (.symi .i64 9) (.symi .i64 5),
  .bin .gtr (.symi .i64 9) (.symi .i64 6),
  .bin .eql (.symi .i64 9) (.symi .i64 6),
  .bin .gtr (.symi .i64 9) (.symi .i64 7),
  .bin .eql (.symi .i64 9) (.symi .i64 7),
  .bin .gtr (.symi .i64 9) (.symi .i64 8),
  .bin .eql (.symi .i64 9) (.symi .i64 8),
  .bin .gtr (.symi .i64 9) (.symi .i64 10),
  .bin .eql (.symi .i64 9) (.symi .i64 10),
  .bin .gtr (.symi .i64 9) (.symi .i64 11),
  .bin .eql (.symi .i64 9) (.symi .i64 11),
  .bin .gtr (.symi .i64 9) (.symi .i64 12),
  .bin .eql (.symi .i64 9) (.symi .i64 12),
  .bin .shr (.symi .u8 16) (.int .i64 5),
  .bin .rem (.symi .u8 114) (.int .u8 2),
  .bin .eql (.symi .u8 115) (.int .u8 0),
  .bin .leq (.symi .i64 10) (.symi .i64 13),
  .bin .eql (.symi .i64 14) (.int .i64 5),
  .bin .gtr (.symi .i64 10) (.symi .i64 5),
  .bin .eql (.symi .i64 10) (.symi .i64 5),
  .bin .gtr (.symi .i64 10) (.symi .i64 6),
  .bin .eql (.symi .i64 10) (.symi .i64 6),
  .bin .gtr (.symi .i64 10) (.symi .i64 7),
  .bin .eql (.symi .i64 10) (.symi .i64 7),
  .bin .gtr (.symi .i64 10) (.symi .i64 8),
  .bin .eql (.symi .i64 10) (.symi .i64 8),
  .bin .gtr (.symi .i64 10) (.symi .i64 9),
  .bin .eql (.symi .i64 10) (.symi .i64 9),
  .bin .gtr (.symi .i64 10) (.symi .i64 11),
  .bin .eql (.symi .i64 10) (.symi .i64 11),
  .bin .gtr (.symi .i64 10) (.symi .i64 12),
  .bin .eql (.symi .i64 10) (.symi .i64 12),
  .bin .shr (.symi .u8 16) (.int .i64 6),
  .bin .rem (.symi .u8 133) (.int .u8 2),
  .bin .eql (.symi .u8 134) (.int .u8 0),
  .bin .leq (.symi .i64 11) (.symi .i64 13),
  .bin .eql (.symi .i64 14) (.int .i64 6),
  .bin .gtr (.symi .i64 11) (.symi .i64 5),
  .bin .eql (.symi .i64 11) (.symi .i64 5),
  .bin .gtr (.symi .i64 11) (.symi .i64 6),
  .bin .eql (.symi .i64 11) (.symi .i64 6),
  .bin .gtr (.symi .i64 11) (.symi .i64 7),
  .bin .eql (.symi .i64 11) (.symi .i64 7),
  .bin .gtr (.symi .i64 11) (.symi .i64 8),
  .bin .eql (.symi .i64 11) (.symi .i64 8),
  .bin .gtr (.symi .i64 11) (.symi .i64 9),
  .bin .eql (.symi .i64 11) (.symi .i64 9),
  .bin .gtr (.symi .i64 11) (.symi .i64 10),
  .bin .eql (.symi .i64 11) (.symi .i64 10),
  .bin .gtr (.symi .i64 11) (.symi .i64 12),
  .bin .eql (.symi .i64 11) (.symi .i64 12),
  .bin .shr (.symi .u8 16) (.int .i64 7),
  .bin .rem (.symi .u8 152) (.int .u8 2),
  .bin .eql (.symi .u8 153) (.int .u8 0),
  .bin .leq (.symi .i64 12) (.symi .i64 13),
  .bin .eql (.symi .i64 14) (.int .i64 7),
  .bin .gtr (.symi .i64 12) (.symi .i64 5),
  .bin .eql (.symi .i64 12) (.symi .i64 5),
  .bin .gtr (.symi .i64 12) (.symi .i64 6),
  .bin .eql (.symi .i64 12) (.symi .i64 6),
  .bin .gtr (.symi .i64 12) (.symi .i64 7),
  .bin .eql (.symi .i64 12) (.symi .i64 7),
  .bin .gtr (.symi .i64 12) (.symi .i64 8),
  .bin .eql (.symi .i64 12) (.symi .i64 8),
  .bin .gtr (.symi .i64 12) (.symi .i64 9),
  .bin .eql (.symi .i64 12) (.symi .i64 9),
  .bin .gtr (.symi .i64 12) (.symi .i64 10),
  .bin .eql (.symi .i64 12) (.symi .i64 10),
  .bin .gtr (.symi .i64 12) (.symi .i64 11),
  .bin .eql (.symi .i64 12) (.symi .i64 11)]

def ikIT : LT := .n (.n (.n (.n (.n (.n (.n (.n (.e) 3920535 98 (.bin .leq (.symi .i64 9) (.symi .i64 13)) (.e)) 7248938 166 (.bin .eql (.symi .i64 12) (.symi .i64 9)) (.e)) 7248966 165 (.bin .gtr (.symi .i64 12) (.symi .i64 9)) (.n (.e) 30635066 29 (.bin .eql (.symi .i64 5) (.symi .i64 8)) (.e))) 30635094 28 (.bin .gtr (.symi .i64 5) (.symi .i64 8)) (.n (.n (.n (.e) 32363039 97 (.bin .eql (.symi .u8 96) (.int .u8 0)) (.e)) 47601607 109 (.bin .eql (.symi .i64 9) (.symi .i64 10)) (.e)) 47601635 108 (.bin .gtr (.symi .i64 9) (.symi .i64 10)) (.n (.e) 50930031 160 (.bin .eql (.symi .i64 12) (.symi .i64 6)) (.e)))) 50930059 159 (.bin .gtr (.symi .i64 12) (.symi .i64 6)) (.n (.n (.n (.n (.e) 87954276 54 (.bin .eql (.symi .i64 6) (.symi .i64 11)) (.e)) 87954304 53 (.bin .gtr (.symi .i64 6) (.symi .i64 11)) (.e)) 91282700 105 (.bin .eql (.symi .i64 9) (.symi .i64 7)) (.n (.e) 91282728 104 (.bin .gtr (.symi .i64 9) (.symi .i64 7)) (.e))) 104920838 117 (.bin .leq (.symi .i64 10) (.symi .i64 13)) (.n (.n (.n (.e) 131635369 48 (.bin .eql (.symi .i64 6) (.symi .i64 8)) (.e)) 131635397 47 (.bin .gtr (.symi .i64 6) (.symi .i64 8)) (.e)) 159940654 77 (.bin .rem (.symi .u8 76) (.int .u8 2)) (.n (.e) 175316462 44 (.bin .eql (.symi .i64 6) (.symi .i64 5)) (.e))))) 175316490 43 (.bin .gtr (.symi .i64 6) (.symi .i64 5)) (.n (.n (.n (.n (.n (.e) 188954579 73 (.bin .eql (.symi .i64 7) (.symi .i64 11)) (.e)) 188954607 72 (.bin .gtr (.symi .i64 7) (.symi .i64 11)) (.e)) 192283003 124 (.bin .eql (.symi .i64 10) (.symi .i64 7)) (.n (.e) 192283031 123 (.bin .gtr (.symi .i64 10) (.symi .i64 7)) (.e))) 205921141 136 (.bin .leq (.symi .i64 11) (.symi .i64 13)) (.n (.n (.n (.e) 232635672 67 (.bin .eql (.symi .i64 7) (.symi .i64 8)) (.e)) 232635700 66 (.bin .gtr (.symi .i64 7) (.symi .i64 8)) (.e)) 249602213 149 (.bin .eql (.symi .i64 11) (.symi .i64 10)) (.n (.e) 249602241 148 (.bin .gtr (.symi .i64 11) (.symi .i64 10)) (.e)))) 260840936 78 (.bin .eql (.symi .u8 77) (.int .u8 0)) (.n (.n (.n (.n (.e) 276316765 63 (.bin .eql (.symi .i64 7) (.symi .i64 5)) (.e)) 276316793 62 (.bin .gtr (.symi .i64 7) (.symi .i64 5)) (.e)) 289954882 92 (.bin .eql (.symi .i64 8) (.symi .i64 11)) (.n (.e) 289954910 91 (.bin .gtr (.symi .i64 8) (.symi .i64 11)) (.e))) 293283306 143 (.bin .eql (.symi .i64 11) (.symi .i64 7)) (.n (.n (.e) 293283334 142 (.bin .gtr (.symi .i64 11) (.symi .i64 7)) (.e)) 306921444 155 (.bin .leq (.symi .i64 12) (.symi .i64 13)) (.n (.e) 319770893 153 (.bin .rem (.symi .u8 152) (.int .u8 2)) (.e)))))) 330307551 37 (.bin .eql (.symi .i64 5) (.symi .i64 12)) (.n (.n (.n (.n (.n (.n (.e) 330307579 36 (.bin .gtr (.symi .i64 5) (.symi .i64 12)) (.e)) 340272809 22 (.bin .eql (.symi .i64 14) (.int .i64 0)) (.e)) 340322844 42 (.bin .eql (.symi .i64 14) (.int .i64 1)) (.n (.e) 340372879 61 (.bin .eql (.symi .i64 14) (.int .i64 2)) (.e))) 340422914 80 (.bin .eql (.symi .i64 14) (.int .i64 3)) (.n (.n (.n (.e) 340472949 99 (.bin .eql (.symi .i64 14) (.int .i64 4)) (.e)) 340522984 118 (.bin .eql (.symi .i64 14) (.int .i64 5)) (.e)) 340573019 137 (.bin .eql (.symi .i64 14) (.int .i64 6)) (.n (.e) 340623054 156 (.bin .eql (.symi .i64 14) (.int .i64 7)) (.e)))) 350602516 168 (.bin .eql (.symi .i64 12) (.symi .i64 10)) (.n (.n (.n (.n (.e) 350602544 167 (.bin .gtr (.symi .i64 12) (.symi .i64 10)) (.e)) 373988644 31 (.bin .eql (.symi .i64 5) (.symi .i64 9)) (.e)) 373988672 30 (.bin .gtr (.symi .i64 5) (.symi .i64 9)) (.n (.e) 377317068 82 (.bin .eql (.symi .i64 8) (.symi .i64 5)) (.e))) 377317096 81 (.bin .gtr (.symi .i64 8) (.symi .i64 5)) (.n (.n (.e) 388418551 58 (.bin .rem (.symi .u8 57) (.int .u8 2)) (.e)) 390955185 111 (.bin .eql (.symi .i64 9) (.symi .i64 11)) (.n (.e) 390955213 110 (.bin .gtr (.symi .i64 9) (.symi .i64 11)) (.e))))) 394283609 162 (.bin .eql (.symi .i64 12) (.symi .i64 7)) (.n (.n (.n (.n (.n (.e) 394283637 161 (.bin .gtr (.symi .i64 12) (.symi .i64 7)) (.e)) 417669737 25 (.bin .eql (.symi .i64 5) (.symi .i64 6)) (.e)) 417669765 24 (.bin .gtr (.symi .i64 5) (.symi .i64 6)) (.n (.e) 420671175 154 (.bin .eql (.symi .u8 153) (.int .u8 0)) (.e))) 431307854 56 (.bin .eql (.symi .i64 6) (.symi .i64 12)) (.n (.n (.n (.e) 431307882 55 (.bin .gtr (.symi .i64 6) (.symi .i64 12)) (.e)) 434636278 107 (.bin .eql (.symi .i64 9) (.symi .i64 8)) (.e)) 434636306 106 (.bin .gtr (.symi .i64 9) (.symi .i64 8)) (.n (.e) 441308894 23 (.un .not (.symb 15)) (.e)))) 474988947 50 (.bin .eql (.symi .i64 6) (.symi .i64 9)) (.n (.n (.n (.n (.e) 474988975 49 (.bin .gtr (.symi .i64 6) (.symi .i64 9)) (.e)) 478317371 101 (.bin .eql (.symi .i64 9) (.symi .i64 5)) (.e)) 478317399 100 (.bin .gtr (.symi .i64 9) (.symi .i64 5)) (.n (.e) 489318833 59 (.bin .eql (.symi .u8 58) (.int .u8 0)) (.e))) 491955488 130 (.bin .eql (.symi .i64 10) (.symi .i64 11)) (.n (.n (.e) 491955516 129 (.bin .gtr (.symi .i64 10) (.symi .i64 11)) (.e)) 532308157 75 (.bin .eql (.symi .i64 7) (.symi .i64 12)) (.n (.e) 532308185 74 (.bin .gtr (.symi .i64 7) (.symi .i64 12)) (.e))))))) 535636581 126 (.bin .eql (.symi .i64 10) (.symi .i64 8)) (.n (.n (.n (.n (.n (.n (.n (.e) 535636609 125 (.bin .gtr (.symi .i64 10) (.symi .i64 8)) (.e)) 542273401 18 (.bin .shr (.symi .u8 16) (.int .i64 0)) (.e)) 542323436 38 (.bin .shr (.symi .u8 16) (.int .i64 1)) (.n (.e) 542373471 57 (.bin .shr (.symi .u8 16) (.int .i64 2)) (.e))) 542423506 76 (.bin .shr (.symi .u8 16) (.int .i64 3)) (.n (.n (.n (.e) 542473541 95 (.bin .shr (.symi .u8 16) (.int .i64 4)) (.e)) 542523576 114 (.bin .shr (.symi .u8 16) (.int .i64 5)) (.e)) 542573611 133 (.bin .shr (.symi .u8 16) (.int .i64 6)) (.n (.e) 542623646 152 (.bin .shr (.symi .u8 16) (.int .i64 7)) (.e)))) 548248790 134 (.bin .rem (.symi .u8 133) (.int .u8 2)) (.n (.n (.n (.n (.e) 575989250 69 (.bin .eql (.symi .i64 7) (.symi .i64 9)) (.e)) 575989278 68 (.bin .gtr (.symi .i64 7) (.symi .i64 9)) (.e)) 579317674 120 (.bin .eql (.symi .i64 10) (.symi .i64 5)) (.n (.e) 579317702 119 (.bin .gtr (.symi .i64 10) (.symi .i64 5)) (.e))) 616896448 39 (.bin .rem (.symi .u8 38) (.int .u8 2)) (.n (.n (.n (.e) 619670343 65 (.bin .eql (.symi .i64 7) (.symi .i64 6)) (.e)) 619670371 64 (.bin .gtr (.symi .i64 7) (.symi .i64 6)) (.e)) 633308460 94 (.bin .eql (.symi .i64 8) (.symi .i64 12)) (.n (.e) 633308488 93 (.bin .gtr (.symi .i64 8) (.symi .i64 12)) (.e))))) 636636884 145 (.bin .eql (.symi .i64 11) (.symi .i64 8)) (.n (.n (.n (.n (.n (.e) 636636912 144 (.bin .gtr (.symi .i64 11) (.symi .i64 8)) (.e)) 649149072 135 (.bin .eql (.symi .u8 134) (.int .u8 0)) (.e)) 673661150 21 (.bin .leq (.symi .i64 5) (.symi .i64 13)) (.n (.e) 676989553 88 (.bin .eql (.symi .i64 8) (.symi .i64 9)) (.e))) 676989581 87 (.bin .gtr (.symi .i64 8) (.symi .i64 9)) (.n (.n (.n (.e) 680317977 139 (.bin .eql (.symi .i64 11) (.symi .i64 5)) (.e)) 680318005 138 (.bin .gtr (.symi .i64 11) (.symi .i64 5)) (.e)) 693956094 170 (.bin .eql (.symi .i64 12) (.symi .i64 11)) (.n (.e) 693956122 169 (.bin .gtr (.symi .i64 12) (.symi .i64 11)) (.e)))) 717342222 33 (.bin .eql (.symi .i64 5) (.symi .i64 10)) (.n (.n (.n (.n (.e) 717342250 32 (.bin .gtr (.symi .i64 5) (.symi .i64 10)) (.e)) 717796730 40 (.bin .eql (.symi .u8 39) (.int .u8 0)) (.e)) 720670646 84 (.bin .eql (.symi .i64 8) (.symi .i64 6)) (.n (.e) 720670674 83 (.bin .gtr (.symi .i64 8) (.symi .i64 6)) (.e))) 734308763 113 (.bin .eql (.symi .i64 9) (.symi .i64 12)) (.n (.n (.e) 734308791 112 (.bin .gtr (.symi .i64 9) (.symi .i64 12)) (.e)) 737637187 164 (.bin .eql (.symi .i64 12) (.symi .i64 8)) (.n (.e) 737637215 163 (.bin .gtr (.symi .i64 12) (.symi .i64 8)) (.e)))))) 744374042 19 (.bin .rem (.symi .u8 18) (.int .u8 2)) (.n (.n (.n (.n (.n (.n (.e) 761023315 27 (.bin .eql (.symi .i64 5) (.symi .i64 7)) (.e)) 761023343 26 (.bin .gtr (.symi .i64 5) (.symi .i64 7)) (.e)) 774661453 41 (.bin .leq (.symi .i64 6) (.symi .i64 13)) (.n (.e) 776726687 115 (.bin .rem (.symi .u8 114) (.int .u8 2)) (.e))) 781318280 158 (.bin .eql (.symi .i64 12) (.symi .i64 5)) (.n (.n (.n (.e) 781318308 157 (.bin .gtr (.symi .i64 12) (.symi .i64 5)) (.e)) 818342525 52 (.bin .eql (.symi .i64 6) (.symi .i64 10)) (.e)) 818342553 51 (.bin .gtr (.symi .i64 6) (.symi .i64 10)) (.n (.e) 821670949 103 (.bin .eql (.symi .i64 9) (.symi .i64 6)) (.e)))) 821670977 102 (.bin .gtr (.symi .i64 9) (.symi .i64 6)) (.n (.n (.n (.n (.e) 835309066 132 (.bin .eql (.symi .i64 10) (.symi .i64 12)) (.e)) 835309094 131 (.bin .gtr (.symi .i64 10) (.symi .i64 12)) (.e)) 845274324 20 (.bin .eql (.symi .u8 19) (.int .u8 0)) (.n (.e) 862023618 46 (.bin .eql (.symi .i64 6) (.symi .i64 7)) (.e))) 862023646 45 (.bin .gtr (.symi .i64 6) (.symi .i64 7)) (.n (.n (.e) 875661756 60 (.bin .leq (.symi .i64 7) (.symi .i64 13)) (.e)) 877626969 116 (.bin .eql (.symi .u8 115) (.int .u8 0)) (.n (.e) 878990159 128 (.bin .eql (.symi .i64 10) (.symi .i64 9)) (.e))))) 878990187 127 (.bin .gtr (.symi .i64 10) (.symi .i64 9)) (.n (.n (.n (.n (.n (.e) 919342828 71 (.bin .eql (.symi .i64 7) (.symi .i64 10)) (.e)) 919342856 70 (.bin .gtr (.symi .i64 7) (.symi .i64 10)) (.e)) 922671252 122 (.bin .eql (.symi .i64 10) (.symi .i64 6)) (.n (.e) 922671280 121 (.bin .gtr (.symi .i64 10) (.symi .i64 6)) (.e))) 936309369 151 (.bin .eql (.symi .i64 11) (.symi .i64 12)) (.n (.n (.n (.e) 936309397 150 (.bin .gtr (.symi .i64 11) (.symi .i64 12)) (.e)) 976662059 79 (.bin .leq (.symi .i64 8) (.symi .i64 13)) (.e)) 979990462 147 (.bin .eql (.symi .i64 11) (.symi .i64 9)) (.n (.e) 979990490 146 (.bin .gtr (.symi .i64 11) (.symi .i64 9)) (.e)))) 1005204584 96 (.bin .rem (.symi .u8 95) (.int .u8 2)) (.n (.n (.n (.n (.e) 1020343131 90 (.bin .eql (.symi .i64 8) (.symi .i64 10)) (.e)) 1020343159 89 (.bin .gtr (.symi .i64 8) (.symi .i64 10)) (.e)) 1023671555 141 (.bin .eql (.symi .i64 11) (.symi .i64 6)) (.n (.e) 1023671583 140 (.bin .gtr (.symi .i64 11) (.symi .i64 6)) (.e))) 1060695800 35 (.bin .eql (.symi .i64 5) (.symi .i64 11)) (.n (.n (.e) 1060695828 34 (.bin .gtr (.symi .i64 5) (.symi .i64 11)) (.e)) 1064024224 86 (.bin .eql (.symi .i64 8) (.symi .i64 7)) (.n (.e) 1064024252 85 (.bin .gtr (.symi .i64 8) (.symi .i64 7)) (.e)))))))

def ikIW : Sw := .pick 17 0 (.run (.node 20 (.node 15 (.node 22 (.dead) (.leaf .normal ikS6 ikFf (ikLi (.int .i64 1)) ikA5)) (.leaf .normal ikS6 ikFf (ikLi (.int .i64 1)) ikA5)) (.node 21 (.node 15 (.node 22 (.dead) (.leaf .normal ikS6 ikFf (ikLi (.int .i64 1)) ikA5)) (.leaf .normal ikS6 ikFf (ikLi (.int .i64 1)) ikA5)) (.node 23 (.dead) (.pick 14 0 (.leaf .normal ikS6 ikFf (ikLi (.int .i64 1)) ikA5) (.pick 14 1 (.node 24 (.dead) (.node 25 (.dead) (.leaf .normal ikS6 ikFf (ikLi (.int .i64 1)) ikA5))) (.pick 14 2 (.node 26 (.dead) (.node 27 (.dead) (.leaf .normal ikS6 ikFf (ikLi (.int .i64 1)) ikA5))) (.pick 14 3 (.node 28 (.dead) (.node 29 (.dead) (.leaf .normal ikS6 ikFf (ikLi (.int .i64 1)) ikA5))) (.pick 14 4 (.node 30 (.dead) (.node 31 (.dead) (.leaf .normal ikS6 ikFf (ikLi (.int .i64 1)) ikA5))) (.pick 14 5 (.node 32 (.dead) (.node 33 (.dead) (.leaf .normal ikS6 ikFf (ikLi (.int .i64 1)) ikA5))) (.pick 14 6 (.node 34 (.dead) (.node 35 (.dead) (.leaf .normal ikS6 ikFf (ikLi (.int .i64 1)) ikA5))) (.pick 14 7 (.node 36 (.dead) (.node 37 (.dead) (.leaf .normal ikS6 ikFf (ikLi (.int .i64 1)) ikA5))) (.dead))))))))))))) (.pick 17 1 (.run (.node 40 (.node 15 (.node 42 (.dead) (.leaf .normal ikS6 ikFf (ikLi (.int .i64 2)) ikA5)) (.leaf .normal ikS6 ikFf (ikLi (.int .i64 2)) ikA5)) (.node 41 (.node 15 (.node 42 (.dead) (.leaf .normal ikS6 ikFf (ikLi (.int .i64 2)) ikA5)) (.leaf .normal ikS6 ikFf (ikLi (.int .i64 2)) ikA5)) (.node 23 (.dead) (.pick 14 0 (.node 43 (.dead) (.leaf .normal ikS6 ikFf (ikLi (.int .i64 2)) ikA5)) (.pick 14 1 (.leaf .normal ikS6 ikFf (ikLi (.int .i64 2)) ikA5) (.pick 14 2 (.node 45 (.dead) (.node 46 (.dead) (.leaf .normal ikS6 ikFf (ikLi (.int .i64 2)) ikA5))) (.pick 14 3 (.node 47 (.dead) (.node 48 (.dead) (.leaf .normal ikS6 ikFf (ikLi (.int .i64 2)) ikA5))) (.pick 14 4 (.node 49 (.dead) (.node 50 (.dead) (.leaf .normal ikS6 ikFf (ikLi (.int .i64 2)) ikA5))) (.pick 14 5 (.node 51 (.dead) (.node 52 (.dead) (.leaf .normal ikS6 ikFf (ikLi (.int .i64 2)) ikA5))) (.pick 14 6 (.node 53 (.dead) (.node 54 (.dead) (.leaf .normal ikS6 ikFf (ikLi (.int .i64 2)) ikA5))) (.pick 14 7 (.node 55 (.dead) (.node 56 (.dead) (.leaf .normal ikS6 ikFf (ikLi (.int .i64 2)) ikA5))) (.dead))))))))))))) (.pick 17 2 (.run (.node 59 (.node 15 (.node 61 (.dead) (.leaf .normal ikS6 ikFf (ikLi (.int .i64 3)) ikA5)) (.leaf .normal ikS6 ikFf (ikLi (.int .i64 3)) ikA5)) (.node 60 (.node 15 (.node 61 (.dead) (.leaf .normal ikS6 ikFf (ikLi (.int .i64 3)) ikA5)) (.leaf .normal ikS6 ikFf (ikLi (.int .i64 3)) ikA5)) (.node 23 (.dead) (.pick 14 0 (.node 62 (.dead) (.leaf .normal ikS6 ikFf (ikLi (.int .i64 3)) ikA5)) (.pick 14 1 (.node 64 (.dead) (.leaf .normal ikS6 ikFf (ikLi (.int .i64 3)) ikA5)) (.pick 14 2 (.leaf .normal ikS6 ikFf (ikLi (.int .i64 3)) ikA5) (.pick 14 3 (.node 66 (.dead) (.node 67 (.dead) (.leaf .normal ikS6 ikFf (ikLi (.int .i64 3)) ikA5))) (.pick 14 4 (.node 68 (.dead) (.node 69 (.dead) (.leaf .normal ikS6 ikFf (ikLi (.int .i64 3)) ikA5))) (.pick 14 5 (.node 70 (.dead) (.node 71 (.dead) (.leaf .normal ikS6 ikFf (ikLi (.int .i64 3)) ikA5))) (.pick 14 6 (.node 72 (.dead) (.node 73 (.dead) (.leaf .normal ikS6 ikFf (ikLi (.int .i64 3)) ikA5))) (.pick 14 7 (.node 74 (.dead) (.node 75 (.dead) (.leaf .normal ikS6 ikFf (ikLi (.int .i64 3)) ikA5))) (.dead))))))))))))) (.pick 17 3 (.run (.node 78 (.node 15 (.node 80 (.dead) (.leaf .normal ikS6 ikFf (ikLi (.int .i64 4)) ikA5)) (.leaf .normal ikS6 ikFf (ikLi (.int .i64 4)) ikA5)) (.node 79 (.node 15 (.node 80 (.dead) (.leaf .normal ikS6 ikFf (ikLi (.int .i64 4)) ikA5)) (.leaf .normal ikS6 ikFf (ikLi (.int .i64 4)) ikA5)) (.node 23 (.dead) (.pick 14 0 (.node 81 (.dead) (.leaf .normal ikS6 ikFf (ikLi (.int .i64 4)) ikA5)) (.pick 14 1 (.node 83 (.dead) (.leaf .normal ikS6 ikFf (ikLi (.int .i64 4)) ikA5)) (.pick 14 2 (.node 85 (.dead) (.leaf .normal ikS6 ikFf (ikLi (.int .i64 4)) ikA5)) (.pick 14 3 (.leaf .normal ikS6 ikFf (ikLi (.int .i64 4)) ikA5) (.pick 14 4 (.node 87 (.dead) (.node 88 (.dead) (.leaf .normal ikS6 ikFf (ikLi (.int .i64 4)) ikA5))) (.pick 14 5 (.node 89 (.dead) (.node 90 (.dead) (.leaf .normal ikS6 ikFf (ikLi (.int .i64 4)) ikA5))) (.pick 14 6 (.node 91 (.dead) (.node 92 (.dead) (.leaf .normal ikS6 ikFf (ikLi (.int .i64 4)) ikA5))) (.pick 14 7 (.node 93 (.dead) (.node 94 (.dead) (.leaf .normal ikS6 ikFf (ikLi (.int .i64 4)) ikA5))) (.dead))))))))))))) (.pick 17 4 (.run (.node 97 (.node 15 (.node 99 (.dead) (.leaf .normal ikS6 ikFf (ikLi (.int .i64 5)) ikA5)) (.leaf .normal ikS6 ikFf (ikLi (.int .i64 5)) ikA5)) (.node 98 (.node 15 (.node 99 (.dead) (.leaf .normal ikS6 ikFf (ikLi (.int .i64 5)) ikA5)) (.leaf .normal ikS6 ikFf (ikLi (.int .i64 5)) ikA5)) (.node 23 (.dead) (.pick 14 0 (.node 100 (.dead) (.leaf .normal ikS6 ikFf (ikLi (.int .i64 5)) ikA5)) (.pick 14 1 (.node 102 (.dead) (.leaf .normal ikS6 ikFf (ikLi (.int .i64 5)) ikA5)) (.pick 14 2 (.node 104 (.dead) (.leaf .normal ikS6 ikFf (ikLi (.int .i64 5)) ikA5)) (.pick 14 3 (.node 106 (.dead) (.leaf .normal ikS6 ikFf (ikLi (.int .i64 5)) ikA5)) (.pick 14 4 (.leaf .normal ikS6 ikFf (ikLi (.int .i64 5)) ikA5) (.pick 14 5 (.node 108 (.dead) (.node 109 (.dead) (.leaf .normal ikS6 ikFf (ikLi (.int .i64 5)) ikA5))) (.pick 14 6 (.node 110 (.dead) (.node 111 (.dead) (.leaf .normal ikS6 ikFf (ikLi (.int .i64 5)) ikA5))) (.pick 14 7 (.node 112 (.dead) (.node 113 (.dead) (.leaf .normal ikS6 ikFf (ikLi (.int .i64 5)) ikA5))) (.dead))))))))))))) (.pick 17 5 (.run (.node 116 (.node 15 (.node 118 (.dead) (.leaf .normal ikS6 ikFf (ikLi (.int .i64 6)) ikA5)) (.leaf .normal ikS6 ikFf (ikLi (.int .i64 6)) ikA5)) (.node 117 (.node 15 (.node 118 (.dead) (.leaf .normal ikS6 ikFf (ikLi (.int .i64 6)) ikA5)) (.leaf .normal ikS6 ikFf (ikLi (.int .i64 6)) ikA5)) (.node 23 (.dead) (.pick 14 0 (.node 119 (.dead) (.leaf .normal ikS6 ikFf (ikLi (.int .i64 6)) ikA5)) (.pick 14 1 (.node 121 (.dead) (.leaf .normal ikS6 ikFf (ikLi (.int .i64 6)) ikA5)) (.pick 14 2 (.node 123 (.dead) (.leaf .normal ikS6 ikFf (ikLi (.int .i64 6)) ikA5)) (.pick 14 3 (.node 125 (.dead) (.leaf .normal ikS6 ikFf (ikLi (.int .i64 6)) ikA5)) (.pick 14 4 (.node 127 (.dead) (.leaf .normal ikS6 ikFf (ikLi (.int .i64 6)) ikA5)) (.pick 14 5 (.leaf .normal ikS6 ikFf (ikLi (.int .i64 6)) ikA5) (.pick 14 6 (.node 129 (.dead) (.node 130 (.dead) (.leaf .normal ikS6 ikFf (ikLi (.int .i64 6)) ikA5))) (.pick 14 7 (.node 131 (.dead) (.node 132 (.dead) (.leaf .normal ikS6 ikFf (ikLi (.int .i64 6)) ikA5))) (.dead))))))))))))) (.pick 17 6 (.run (.node 135 (.node 15 (.node 137 (.dead) (.leaf .normal ikS6 ikFf (ikLi (.int .i64 7)) ikA5)) (.leaf .normal ikS6 ikFf (ikLi (.int .i64 7)) ikA5)) (.node 136 (.node 15 (.node 137 (.dead) (.leaf .normal ikS6 ikFf (ikLi (.int .i64 7)) ikA5)) (.leaf .normal ikS6 ikFf (ikLi (.int .i64 7)) ikA5)) (.node 23 (.dead) (.pick 14 0 (.node 138 (.dead) (.leaf .normal ikS6 ikFf (ikLi (.int .i64 7)) ikA5)) (.pick 14 1 (.node 140 (.dead) (.leaf .normal ikS6 ikFf (ikLi (.int .i64 7)) ikA5)) (.pick 14 2 (.node 142 (.dead) (.leaf .normal ikS6 ikFf (ikLi (.int .i64 7)) ikA5)) (.pick 14 3 (.node 144 (.dead) (.leaf .normal ikS6 ikFf (ikLi (.int .i64 7)) ikA5)) (.pick 14 4 (.node 146 (.dead) (.leaf .normal ikS6 ikFf (ikLi (.int .i64 7)) ikA5)) (.pick 14 5 (.node 148 (.dead) (.leaf .normal ikS6 ikFf (ikLi (.int .i64 7)) ikA5)) (.pick 14 6 (.leaf .normal ikS6 ikFf (ikLi (.int .i64 7)) ikA5) (.pick 14 7 (.node 150 (.dead) (.node 151 (.dead) (.leaf .normal ikS6 ikFf (ikLi (.int .i64 7)) ikA5))) (.dead))))))))))))) (.pick 17 7 (.run (.node 154 (.node 15 (.node 156 (.dead) (.leaf .normal ikS6 ikFf (ikLi (.int .i64 8)) ikA5)) (.leaf .normal ikS6 ikFf (ikLi (.int .i64 8)) ikA5)) (.node 155 (.node 15 (.node 156 (.dead) (.leaf .normal ikS6 ikFf (ikLi (.int .i64 8)) ikA5)) (.leaf .normal ikS6 ikFf (ikLi (.int .i64 8)) ikA5)) (.node 23 (.dead) (.pick 14 0 (.node 157 (.dead) (.leaf .normal ikS6 ikFf (ikLi (.int .i64 8)) ikA5)) (.pick 14 1 (.node 159 (.dead) (.leaf .normal ikS6 ikFf (ikLi (.int .i64 8)) ikA5)) (.pick 14 2 (.node 161 (.dead) (.leaf .normal ikS6 ikFf (ikLi (.int .i64 8)) ikA5)) (.pick 14 3 (.node 163 (.dead) (.leaf .normal ikS6 ikFf (ikLi (.int .i64 8)) ikA5)) (.pick 14 4 (.node 165 (.dead) (.leaf .normal ikS6 ikFf (ikLi (.int .i64 8)) ikA5)) (.pick 14 5 (.node 167 (.dead) (.leaf .normal ikS6 ikFf (ikLi (.int .i64 8)) ikA5)) (.pick 14 6 (.node 169 (.dead) (.leaf .normal ikS6 ikFf (ikLi (.int .i64 8)) ikA5)) (.pick 14 7 (.leaf .normal ikS6 ikFf (ikLi (.int .i64 8)) ikA5) (.dead))))))))))))) (.pick 17 8 (.run (.leaf (.exit 5) ikS7 ikFf [(13, .symi .i64 14), (14, .symb 15), (3, .symi .u8 3), (2, .symi .u8 2), (4, .symi .u8 4), (0, .symi .i64 0), (5, .symi .i64 5), (6, .symi .i64 6), (7, .symi .i64 7), (8, .symi .i64 8), (9, .symi .i64 9), (10, .symi .i64 10), (11, .symi .i64 11), (12, .symi .i64 12), (2, .symi .u8 2), (3, .symi .u8 3)] ikA5)) (.dead)))))))))

set_option maxRecDepth 100000 in
def ikJG : List SDef := [.bin .andNot (.symi .u8 3) (.int .u8 1),
  .bin .andNot (.symi .u8 3) (.int .u8 2),
  .bin .andNot (.symi .u8 3) (.int .u8 4),
  .bin .andNot (.symi .u8 3) (.int .u8 8),
  .bin .andNot (.symi .u8 3) (.int .u8 16),
  .bin .andNot (.symi .u8 3) (.int .u8 32),
  .bin .andNot (.symi .u8 3) (.int .u8 64),
  .bin .andNot (.symi .u8 3) (.int .u8 128),
  .bin .geq (.symi .i64 13) (.int .i64 0),
  .bin .lss (.symi .i64 13) (.int .i64 8)]

def ikJT : LT := .n (.n (.n (.n (.e) 239272541 23 (.bin .geq (.symi .i64 13) (.int .i64 0)) (.e)) 239672800 24 (.bin .lss (.symi .i64 13) (.int .i64 8)) (.e)) 303061331 15 (.bin .andNot (.symi .u8 3) (.int .u8 1)) (.n (.n (.e) 303111366 16 (.bin .andNot (.symi .u8 3) (.int .u8 2)) (.e)) 303211436 17 (.bin .andNot (.symi .u8 3) (.int .u8 4)) (.e))) 303411576 18 (.bin .andNot (.symi .u8 3) (.int .u8 8)) (.n (.n (.n (.e) 303811856 19 (.bin .andNot (.symi .u8 3) (.int .u8 16)) (.e)) 304612416 20 (.bin .andNot (.symi .u8 3) (.int .u8 32)) (.e)) 306213536 21 (.bin .andNot (.symi .u8 3) (.int .u8 64)) (.n (.e) 309415776 22 (.bin .andNot (.symi .u8 3) (.int .u8 128)) (.e)))

def ikJW : Sw := .pick 13 0 (.run (.node 14 (.leaf .normal ikS1 ikFf [(3, .symi .u8 15), (2, .symi .u8 2), (4, .symi .u8 4), (0, .symi .i64 0), (5, .symi .i64 5), (6, .symi .i64 6), (7, .symi .i64 7), (8, .symi .i64 8), (9, .symi .i64 9), (10, .symi .i64 10), (11, .symi .i64 11), (12, .symi .i64 12), (2, .symi .u8 2), (3, .symi .u8 15)] ikA5) (.dead))) (.pick 13 1 (.run (.node 14 (.leaf .normal ikS1 ikFf [(3, .symi .u8 16), (2, .symi .u8 2), (4, .symi .u8 4), (0, .symi .i64 0), (5, .symi .i64 5), (6, .symi .i64 6), (7, .symi .i64 7), (8, .symi .i64 8), (9, .symi .i64 9), (10, .symi .i64 10), (11, .symi .i64 11), (12, .symi .i64 12), (2, .symi .u8 2), (3, .symi .u8 16)] ikA5) (.dead))) (.pick 13 2 (.run (.node 14 (.leaf .normal ikS1 ikFf [(3, .symi .u8 17), (2, .symi .u8 2), (4, .symi .u8 4), (0, .symi .i64 0), (5, .symi .i64 5), (6, .symi .i64 6), (7, .symi .i64 7), (8, .symi .i64 8), (9, .symi .i64 9), (10, .symi .i64 10), (11, .symi .i64 11), (12, .symi .i64 12), (2, .symi .u8 2), (3, .symi .u8 17)] ikA5) (.dead))) (.pick 13 3 (.run (.node 14 (.leaf .normal ikS1 ikFf ikA4 ikA5) (.dead))) (.pick 13 4 (.run (.node 14 (.leaf .normal ikS1 ikFf [(3, .symi .u8 19), (2, .symi .u8 2), (4, .symi .u8 4), (0, .symi .i64 0), (5, .symi .i64 5), (6, .symi .i64 6), (7, .symi .i64 7), (8, .symi .i64 8), (9, .symi .i64 9), (10, .symi .i64 10), (11, .symi .i64 11), (12, .symi .i64 12), (2, .symi .u8 2), (3, .symi .u8 19)] ikA5) (.dead))) (.pick 13 5 (.run (.node 14 (.leaf .normal ikS1 ikFf [(3, .symi .u8 20), (2, .symi .u8 2), (4, .symi .u8 4), (0, .symi .i64 0), (5, .symi .i64 5), (6, .symi .i64 6), (7, .symi .i64 7), (8, .symi .i64 8), (9, .symi .i64 9), (10, .symi .i64 10), (11, .symi .i64 11), (12, .symi .i64 12), (2, .symi .u8 2), (3, .symi .u8 20)] ikA5) (.dead))) (.pick 13 6 (.run (.node 14 (.leaf .normal ikS1 ikFf [(3, .symi .u8 21), (2, .symi .u8 2), (4, .symi .u8 4), (0, .symi .i64 0), (5, .symi .i64 5), (6, .symi .i64 6), (7, .symi .i64 7), (8, .symi .i64 8), (9, .symi .i64 9), (10, .symi .i64 10), (11, .symi .i64 11), (12, .symi .i64 12), (2, .symi .u8 2), (3, .symi .u8 21)] ikA5) (.dead))) (.pick 13 7 (.run (.node 14 (.leaf .normal ikS1 ikFf [(3, .symi .u8 22), (2, .symi .u8 2), (4, .symi .u8 4), (0, .symi .i64 0), (5, .symi .i64 5), (6, .symi .i64 6), (7, .symi .i64 7), (8, .symi .i64 8), (9, .symi .i64 9), (10, .symi .i64 10), (11, .symi .i64 11), (12, .symi .i64 12), (2, .symi .u8 2), (3, .symi .u8 22)] ikA5) (.dead))) (.run (.node 14 (.req (.node 23 (.node 24 (.no) (.ok)) (.ok)) (.dead)) (.leaf .normal ikS1 ikFf ikA0 ikA5))))))))))
set_option maxRecDepth 100000 in
def ikKG : List SDef := [.conv .i32 (.symi .u8 3),
  .conv .i32 (.symi .u8 2)]

def ikKT : LT := .n (.n (.e) 206000950 14 (.conv .i32 (.symi .u8 2)) (.e)) 309001259 13 (.conv .i32 (.symi .u8 3)) (.e)

def ikKW : Sw := .run (.leaf .normal ikS1 ikFf ikA0 ikA5)
set_option maxRecDepth 100000 in
def ikLG : List SDef := [.bin .add (.symi .i64 0) (.int .i64 1)]

def ikLT : LT := .n (.e) 60352 13 (.bin .add (.symi .i64 0) (.int .i64 1)) (.e)

def ikLW : Sw := .run (.leaf .normal ikS1 ikFf [(3, .symi .u8 3), (2, .symi .u8 2), (4, .symi .u8 4), (0, .symi .i64 13), (5, .symi .i64 5), (6, .symi .i64 6), (7, .symi .i64 7), (8, .symi .i64 8), (9, .symi .i64 9), (10, .symi .i64 10), (11, .symi .i64 11), (12, .symi .i64 12), (2, .symi .u8 2), (3, .symi .u8 3)] ikA5)
set_option maxRecDepth 100000 in
def ikMG : List SDef := []

def ikMT : LT := .e

def ikMW : Sw := .run (.leaf .normal ikS8 ikFf [(1, .int .i64 9), (2, .symi .u8 1), (0, .int .i64 0), (3, .symi .i64 2), (4, .symi .i64 3), (5, .symi .i64 4), (6, .symi .i64 5), (7, .symi .i64 6), (8, .symi .i64 7), (9, .symi .i64 8), (10, .symi .i64 9), (2, .symi .u8 1)] [])
def ikL1 : List AVal := [.int .u8 255, .symi .u8 2, .symi .i64 3, .symi .i64 4, .symi .i64 5, .symi .i64 6, .symi .i64 7, .symi .i64 8, .symi .i64 9, .symi .i64 10, .int .i64 0, .int .i64 0, .int .u8 0]
set_option maxRecDepth 100000 in
def ikNG : List SDef := [.bin .lss (.symi .i64 0) (.int .i64 9),
  .fn 0 .i64 ikL1,
  .fnb 1 ikL1,
  .un .not (.symb 13),
  .bin .shr (.symi .u8 2) (.int .i64 0),
  .bin .rem (.symi .u8 15) (.int .u8 2),
  .bin .eql (.symi .u8 16) (.int .u8 0),
  .bin .gtr (.symi .i64 3) (.symi .i64 1),
  .bin .andNot (.symi .u8 2) (.int .u8 1),
  .bin .add (.symi .i64 0) (.int .i64 1),
  .bin .shr (.symi .u8 2) (.int .i64 1),
  .bin .rem (.symi .u8 21) (.int .u8 2),
  .bin .eql (.symi .u8 22) (.int .u8 0),
  .bin .gtr (.symi .i64 4) (.symi .i64 1),
  .bin .andNot (.symi .u8 2) (.int .u8 2),
  .bin .shr (.symi .u8 2) (.int .i64 2),
  .bin .rem (.symi .u8 26) (.int .u8 2),
  .bin .eql (.symi .u8 27) (.int .u8 0),
  .bin .gtr (.symi .i64 5) (.symi .i64 1),
  .bin .andNot (.symi .u8 2) (.int .u8 4),
  .bin .shr (.symi .u8 2) (.int .i64 3),
  .bin .rem (.symi .u8 31) (.int .u8 2),
  .bin .eql (.symi .u8 32) (.int .u8 0),
  .bin .gtr (.symi .i64 6) (.symi .i64 1),
  .bin .andNot (.symi .u8 2) (.int .u8 8),
  .bin .shr (.symi .u8 2) (.int .i64 4),
  .bin .rem (.symi .u8 36) (.int .u8 2),
  .bin .eql (.symi .u8 37) (.int .u8 0),
  .bin .gtr (.symi .i64 7) (.symi .i64 1),
  .bin .andNot (.symi .u8 2) (.int .u8 16),
  .bin .shr (.symi .u8 2) (.int .i64 5),
  .bin .rem (.symi .u8 41) (.int .u8 2),
  .bin .eql (.symi .u8 42) (.int .u8 0),
  .bin .gtr (.symi .i64 8) (.symi .i64 1),
  .bin .andNot (.symi .u8 2) (.int .u8 32),
  .bin .shr (.symi .u8 2) (.int .i64 6),
  .bin .rem (.symi .u8 46) (.int .u8 2),
  .bin .eql (.symi .u8 47) (.int .u8 0),
  .bin .gtr (.symi .i64 9) (.symi .i64 1),
  .bin .andNot (.symi .u8 2) (.int .u8 64),
  .bin .shr (.symi .u8 2) (.int .i64 7),
  .bin .rem (.symi .u8 51) (.int .u8 2),
  .bin .eql (.symi .u8 52) (.int .u8 0),
  .bin .gtr (.symi .i64 10) (.symi .i64 1),
  .bin .andNot (.symi .u8 2) (.int .u8 128),
  .bin .lss (.symi .i64 12) (.int .i64 0),
  .bin .gtr (.symi .i64 12) (.int .i64 7),
  .ite (.symb 56) (.bool true) (.symb 57)]

def ikNT : LT := .n (.n (.n (.n (.n (.n (.e) 60352 20 (.bin .add (.symi .i64 0) (.int .i64 1)) (.e)) 460723 11 (.bin .lss (.symi .i64 0) (.int .i64 9)) (.n (.e) 10794609 33 (.bin .eql (.symi .u8 32) (.int .u8 0)) (.e))) 74533406 23 (.bin .eql (.symi .u8 22) (.int .u8 0)) (.n (.n (.e) 77644611 44 (.bin .gtr (.symi .i64 8) (.symi .i64 1)) (.e)) 138272217 56 (.bin .lss (.symi .i64 12) (.int .i64 0)) (.e))) 138622476 57 (.bin .gtr (.symi .i64 12) (.int .i64 7)) (.n (.n (.n (.e) 178644914 49 (.bin .gtr (.symi .i64 9) (.symi .i64 1)) (.e)) 202010986 15 (.bin .shr (.symi .u8 2) (.int .i64 0)) (.e)) 202061021 21 (.bin .shr (.symi .u8 2) (.int .i64 1)) (.n (.n (.e) 202061028 19 (.bin .andNot (.symi .u8 2) (.int .u8 1)) (.e)) 202111056 26 (.bin .shr (.symi .u8 2) (.int .i64 2)) (.e)))) 202111063 25 (.bin .andNot (.symi .u8 2) (.int .u8 2)) (.n (.n (.n (.n (.e) 202161091 31 (.bin .shr (.symi .u8 2) (.int .i64 3)) (.e)) 202211126 36 (.bin .shr (.symi .u8 2) (.int .i64 4)) (.e)) 202211133 30 (.bin .andNot (.symi .u8 2) (.int .u8 4)) (.n (.n (.e) 202261161 41 (.bin .shr (.symi .u8 2) (.int .i64 5)) (.e)) 202311196 46 (.bin .shr (.symi .u8 2) (.int .i64 6)) (.e))) 202361231 51 (.bin .shr (.symi .u8 2) (.int .i64 7)) (.n (.n (.n (.e) 202411273 35 (.bin .andNot (.symi .u8 2) (.int .u8 8)) (.e)) 202811553 40 (.bin .andNot (.symi .u8 2) (.int .u8 16)) (.e)) 203612113 45 (.bin .andNot (.symi .u8 2) (.int .u8 32)) (.n (.n (.e) 205213233 50 (.bin .andNot (.symi .u8 2) (.int .u8 64)) (.e)) 208415473 55 (.bin .andNot (.symi .u8 2) (.int .u8 128)) (.e))))) 239302228 14 (.un .not (.symb 13)) (.n (.n (.n (.n (.n (.e) 279645217 54 (.bin .gtr (.symi .i64 10) (.symi .i64 1)) (.e)) 285417526 58 (.ite (.symb 56) (.bool true) (.symb 57)) (.e)) 351157045 47 (.bin .rem (.symi .u8 46) (.int .u8 2)) (.n (.n (.e) 414895842 37 (.bin .rem (.symi .u8 36) (.int .u8 2)) (.e)) 441373133 16 (.bin .rem (.symi .u8 15) (.int .u8 2)) (.e))) 452057327 48 (.bin .eql (.symi .u8 47) (.int .u8 0)) (.n (.n (.n (.e) 478634639 27 (.bin .rem (.symi .u8 26) (.int .u8 2)) (.e)) 515796124 38 (.bin .eql (.symi .u8 37) (.int .u8 0)) (.e)) 542273415 17 (.bin .eql (.symi .u8 16) (.int .u8 0)) (.n (.n (.e) 579534921 28 (.bin .eql (.symi .u8 27) (.int .u8 0)) (.e)) 646384923 18 (.bin .gtr (.symi .i64 3) (.symi .i64 1)) (.e)))) 747385226 24 (.bin .gtr (.symi .i64 4) (.symi .i64 1)) (.n (.n (.n (.n (.e) 848385529 29 (.bin .gtr (.symi .i64 5) (.symi .i64 1)) (.e)) 856158560 52 (.bin .rem (.symi .u8 51) (.int .u8 2)) (.e)) 872930774 12 (.fn 0 .i64 ikL1) (.n (.n (.e) 919897357 42 (.bin .rem (.symi .u8 41) (.int .u8 2)) (.e)) 945698409 13 (.fnb 1 ikL1) (.e))) 949385832 34 (.bin .gtr (.symi .i64 6) (.symi .i64 1)) (.n (.n (.n (.e) 957058842 53 (.bin .eql (.symi .u8 52) (.int .u8 0)) (.e)) 983636154 32 (.bin .rem (.symi .u8 31) (.int .u8 2)) (.e)) 1020797639 43 (.bin .eql (.symi .u8 42) (.int .u8 0)) (.n (.n (.e) 1047374951 22 (.bin .rem (.symi .u8 21) (.int .u8 2)) (.e)) 1050386135 39 (.bin .gtr (.symi .i64 7) (.symi .i64 1)) (.e)))))

def ikNW : Sw := .pick 12 0 (.run (.node 11 (.node 14 (.dead) (.node 17 (.dead) (.node 18 (.dead) (.leaf .normal ikS8 ikFf [(1, .symi .i64 3), (2, .symi .u8 19), (0, .symi .i64 20), (3, .symi .i64 3), (4, .symi .i64 4), (5, .symi .i64 5), (6, .symi .i64 6), (7, .symi .i64 7), (8, .symi .i64 8), (9, .symi .i64 9), (10, .symi .i64 10), (2, .symi .u8 19)] [])))) (.dead))) (.pick 12 1 (.run (.node 11 (.node 14 (.dead) (.node 23 (.dead) (.node 24 (.dead) (.leaf .normal ikS8 ikFf [(1, .symi .i64 4), (2, .symi .u8 25), (0, .symi .i64 20), (3, .symi .i64 3), (4, .symi .i64 4), (5, .symi .i64 5), (6, .symi .i64 6), (7, .symi .i64 7), (8, .symi .i64 8), (9, .symi .i64 9), (10, .symi .i64 10), (2, .symi .u8 25)] [])))) (.dead))) (.pick 12 2 (.run (.node 11 (.node 14 (.dead) (.node 28 (.dead) (.node 29 (.dead) (.leaf .normal ikS8 ikFf [(1, .symi .i64 5), (2, .symi .u8 30), (0, .symi .i64 20), (3, .symi .i64 3), (4, .symi .i64 4), (5, .symi .i64 5), (6, .symi .i64 6), (7, .symi .i64 7), (8, .symi .i64 8), (9, .symi .i64 9), (10, .symi .i64 10), (2, .symi .u8 30)] [])))) (.dead))) (.pick 12 3 (.run (.node 11 (.node 14 (.dead) (.node 33 (.dead) (.node 34 (.dead) (.leaf .normal ikS8 ikFf [(1, .symi .i64 6), (2, .symi .u8 35), (0, .symi .i64 20), (3, .symi .i64 3), (4, .symi .i64 4), (5, .symi .i64 5), (6, .symi .i64 6), (7, .symi .i64 7), (8, .symi .i64 8), (9, .symi .i64 9), (10, .symi .i64 10), (2, .symi .u8 35)] [])))) (.dead))) (.pick 12 4 (.run (.node 11 (.node 14 (.dead) (.node 38 (.dead) (.node 39 (.dead) (.leaf .normal ikS8 ikFf [(1, .symi .i64 7), (2, .symi .u8 40), (0, .symi .i64 20), (3, .symi .i64 3), (4, .symi .i64 4), (5, .symi .i64 5), (6, .symi .i64 6), (7, .symi .i64 7), (8, .symi .i64 8), (9, .symi .i64 9), (10, .symi .i64 10), (2, .symi .u8 40)] [])))) (.dead))) (.pick 12 5 (.run (.node 11 (.node 14 (.dead) (.node 43 (.dead) (.node 44 (.dead) (.leaf .normal ikS8 ikFf [(1, .symi .i64 8), (2, .symi .u8 45), (0, .symi .i64 20), (3, .symi .i64 3), (4, .symi .i64 4), (5, .symi .i64 5), (6, .symi .i64 6), (7, .symi .i64 7), (8, .symi .i64 8), (9, .symi .i64 9), (10, .symi .i64 10), (2, .symi .u8 45)] [])))) (.dead))) (.pick 12 6 (.run (.node 11 (.node 14 (.dead) (.node 48 (.dead) (.node 49 (.dead) (.leaf .normal ikS8 ikFf [(1, .symi .i64 9), (2, .symi .u8 50), (0, .symi .i64 20), (3, .symi .i64 3), (4, .symi .i64 4), (5, .symi .i64 5), (6, .symi .i64 6), (7, .symi .i64 7), (8, .symi .i64 8), (9, .symi .i64 9), (10, .symi .i64 10), (2, .symi .u8 50)] [])))) (.dead))) (.pick 12 7 (.run (.node 11 (.node 14 (.dead) (.node 53 (.dead) (.node 54 (.dead) (.leaf .normal ikS8 ikFf [(1, .symi .i64 10), (2, .symi .u8 55), (0, .symi .i64 20), (3, .symi .i64 3), (4, .symi .i64 4), (5, .symi .i64 5), (6, .symi .i64 6), (7, .symi .i64 7), (8, .symi .i64 8), (9, .symi .i64 9), (10, .symi .i64 10), (2, .symi .u8 55)] [])))) (.dead))) (.run (.node 11 (.node 14 (.leaf (.exit 7) ikS9 ikFf [(0, .symi .u8 2), (1, .symi .i64 3), (2, .symi .i64 4), (3, .symi .i64 5), (4, .symi .i64 6), (5, .symi .i64 7), (6, .symi .i64 8), (7, .symi .i64 9), (8, .symi .i64 10), (0, .symi .u8 2)] []) (.req (.node 56 (.ok) (.node 57 (.ok) (.no))) (.dead))) (.dead))))))))))
set_option maxRecDepth 100000 in
def ikOG : List SDef := []

def ikOT : LT := .e

def ikOW : Sw := .run (.leaf .normal ikS10 ikFf [(0, .symi .u8 0), (9, .int .i64 0), (1, .symi .i64 1), (2, .symi .i64 2), (3, .symi .i64 3), (4, .symi .i64 4), (5, .symi .i64 5), (6, .symi .i64 6), (7, .symi .i64 7), (8, .symi .i64 8), (0, .symi .u8 0)] [])
set_option maxRecDepth 100000 in
def ikQG : List SDef := [.bin .shr (.symi .u8 0) (.int .i64 0),
  .bin .rem (.symi .u8 10) (.int .u8 2),
  .bin .eql (.symi .u8 11) (.int .u8 1),
  .bin .gtr (.symi .i64 1) (.int .i64 0),
  .bin .shr (.symi .u8 0) (.int .i64 1),
  .bin .rem (.symi .u8 14) (.int .u8 2),
  .bin .eql (.symi .u8 15) (.int .u8 1),
  .bin .gtr (.symi .i64 2) (.int .i64 0),
  .bin .shr (.symi .u8 0) (.int .i64 2),
  .bin .rem (.symi .u8 18) (.int .u8 2),
  .bin .eql (.symi .u8 19) (.int .u8 1),
  .bin .gtr (.symi .i64 3) (.int .i64 0),
  .bin .shr (.symi .u8 0) (.int .i64 3),
  .bin .rem (.symi .u8 22) (.int .u8 2),
  .bin .eql (.symi .u8 23) (.int .u8 1),
  .bin .gtr (.symi .i64 4) (.int .i64 0),
  .bin .shr (.symi .u8 0) (.int .i64 4),
  .bin .rem (.symi .u8 26) (.int .u8 2),
  .bin .eql (.symi .u8 27) (.int .u8 1),
  .bin .gtr (.symi .i64 5) (.int .i64 0),
  .bin .shr (.symi .u8 0) (.int .i64 5),
  .bin .rem (.symi .u8 30) (.int .u8 2),
  .bin .eql (.symi .u8 31) (.int .u8 1),
  .bin .gtr (.symi .i64 6) (.int .i64 0),
  .bin .shr (.symi .u8 0) (.int .i64 6),
  .bin .rem (.symi .u8 34) (.int .u8 2),
  .bin .eql (.symi .u8 35) (.int .u8 1),
  .bin .gtr (.symi .i64 7) (.int .i64 0),
  .bin .shr (.symi .u8 0) (.int .i64 7),
  .bin .rem (.symi .u8 38) (.int .u8 2),
  .bin .eql (.symi .u8 39) (.int .u8 1),
  .bin .gtr (.symi .i64 8) (.int .i64 0),
  .bin .lss (.symi .i64 9) (.int .i64 8)]

def ikQT : LT := .n (.n (.n (.n (.n (.n (.e) 10380 10 (.bin .shr (.symi .u8 0) (.int .i64 0)) (.e)) 60415 14 (.bin .shr (.symi .u8 0) (.int .i64 1)) (.e)) 110450 18 (.bin .shr (.symi .u8 0) (.int .i64 2)) (.n (.e) 160485 22 (.bin .shr (.symi .u8 0) (.int .i64 3)) (.e))) 210520 26 (.bin .shr (.symi .u8 0) (.int .i64 4)) (.n (.n (.e) 260555 30 (.bin .shr (.symi .u8 0) (.int .i64 5)) (.e)) 310590 34 (.bin .shr (.symi .u8 0) (.int .i64 6)) (.n (.e) 360625 38 (.bin .shr (.symi .u8 0) (.int .i64 7)) (.e)))) 37321935 12 (.bin .eql (.symi .u8 11) (.int .u8 1)) (.n (.n (.n (.e) 74633427 23 (.bin .rem (.symi .u8 22) (.int .u8 2)) (.e)) 101010725 13 (.bin .gtr (.symi .i64 1) (.int .i64 0)) (.n (.e) 175583744 24 (.bin .eql (.symi .u8 23) (.int .u8 1)) (.e))) 202011028 17 (.bin .gtr (.symi .i64 2) (.int .i64 0)) (.n (.n (.e) 212895236 35 (.bin .rem (.symi .u8 34) (.int .u8 2)) (.e)) 303011331 21 (.bin .gtr (.symi .i64 3) (.int .i64 0)) (.n (.e) 313845553 36 (.bin .eql (.symi .u8 35) (.int .u8 1)) (.e))))) 340372830 15 (.bin .rem (.symi .u8 14) (.int .u8 2)) (.n (.n (.n (.n (.n (.e) 404011634 25 (.bin .gtr (.symi .i64 4) (.int .i64 0)) (.e)) 441323147 16 (.bin .eql (.symi .u8 15) (.int .u8 1)) (.e)) 478634639 27 (.bin .rem (.symi .u8 26) (.int .u8 2)) (.n (.e) 505011937 29 (.bin .gtr (.symi .i64 5) (.int .i64 0)) (.e))) 579584956 28 (.bin .eql (.symi .u8 27) (.int .u8 1)) (.n (.n (.e) 606012240 33 (.bin .gtr (.symi .i64 6) (.int .i64 0)) (.e)) 616896448 39 (.bin .rem (.symi .u8 38) (.int .u8 2)) (.n (.e) 707012543 37 (.bin .gtr (.symi .i64 7) (.int .i64 0)) (.e)))) 717846765 40 (.bin .eql (.symi .u8 39) (.int .u8 1)) (.n (.n (.n (.e) 744374042 19 (.bin .rem (.symi .u8 18) (.int .u8 2)) (.e)) 808012846 41 (.bin .gtr (.symi .i64 8) (.int .i64 0)) (.n (.e) 845324359 20 (.bin .eql (.symi .u8 19) (.int .u8 1)) (.e))) 882635851 31 (.bin .rem (.symi .u8 30) (.int .u8 2)) (.n (.n (.e) 909413415 42 (.bin .lss (.symi .i64 9) (.int .i64 8)) (.e)) 983586168 32 (.bin .eql (.symi .u8 31) (.int .u8 1)) (.n (.e) 1010113445 11 (.bin .rem (.symi .u8 10) (.int .u8 2)) (.e)))))

def ikQW : Sw := .pick 9 0 (.run (.node 12 (.node 13 (.dead) (.leaf .normal ikS10 ikFf ikA6 [])) (.leaf .normal ikS10 ikFf ikA6 []))) (.pick 9 1 (.run (.node 16 (.node 17 (.dead) (.leaf .normal ikS10 ikFf ikA7 [])) (.leaf .normal ikS10 ikFf ikA7 []))) (.pick 9 2 (.run (.node 20 (.node 21 (.dead) (.leaf .normal ikS10 ikFf ikA8 [])) (.leaf .normal ikS10 ikFf ikA8 []))) (.pick 9 3 (.run (.node 24 (.node 25 (.dead) (.leaf .normal ikS10 ikFf ikA9 [])) (.leaf .normal ikS10 ikFf ikA9 []))) (.pick 9 4 (.run (.node 28 (.node 29 (.dead) (.leaf .normal ikS10 ikFf ikA10 [])) (.leaf .normal ikS10 ikFf ikA10 []))) (.pick 9 5 (.run (.node 32 (.node 33 (.dead) (.leaf .normal ikS10 ikFf ikA11 [])) (.leaf .normal ikS10 ikFf ikA11 []))) (.pick 9 6 (.run (.node 36 (.node 37 (.dead) (.leaf .normal ikS10 ikFf ikA12 [])) (.leaf .normal ikS10 ikFf ikA12 []))) (.pick 9 7 (.run (.node 40 (.node 41 (.dead) (.leaf .normal ikS10 ikFf ikA13 [])) (.leaf .normal ikS10 ikFf ikA13 []))) (.pick 9 8 (.run (.leaf (.exit 9) ikS11 [(1, 0)] [(0, .symi .u8 0), (0, .symi .u8 0)] [])) (.dead)))))))))

set_option maxRecDepth 100000 in
def ikRG : List SDef := [.conv .i32 (.symi .u8 0)]

def ikRT : LT := .n (.e) 332 1 (.conv .i32 (.symi .u8 0)) (.e)

def ikRW : Sw := .run (.leaf .ret ikSE [] [(0, .bool true)] [])
def ikAX : Ing := { m := 9, ins := ((cellsOf ikSs).map kindC ++ [some .i64]), G := ikAG, T := ikAT, hook := orHook (trueHook ikTru) (tblHook (tabOf ckFs) ikTbl), tab := tabOf ckFs, rows := [⟨.symi .i64 8, []⟩] }
theorem ikA_ok : okG ikAG 9 = true := by kernel_rfl
theorem ikA_lt : okLT 9 ikAG ikAT = true := by kernel_rfl
theorem ikA_seg : SegOk Try.prog (tabOf ckFs) 245 ((flatC (bodyOf Try.f3)).take 9) ikS0 ikAX ikAW where
  lt := ikA_lt
  ok := ikA_ok
  hook := fun F => or_hooks ikA_lt rfl rfl ik_tru ik_all F
  n0 := rfl
  id := by kernel_rfl
  reck := by kernel_rfl
  tab := rfl
  cuts := rfl
def ikBX : Ing := { m := 16, ins := ikKe, G := ikBG, T := ikBT, hook := orHook (trueHook ikTru) (tblHook (tabOf ckFs) ikTbl), tab := tabOf ckFs, rows := [ikRow] }
theorem ikB_ok : okG ikBG 16 = true := by kernel_rfl
theorem ikB_lt : okLT 16 ikBG ikBT = true := by kernel_rfl
theorem ikB_seg : SegOk Try.prog (tabOf ckFs) 245 ((flatC (loopAt 9 (bodyOf Try.f3))).take 2) ikS1 ikBX ikBW where
  lt := ikB_lt
  ok := ikB_ok
  hook := fun F => or_hooks ikB_lt rfl rfl ik_tru ik_all F
  n0 := rfl
  id := by kernel_rfl
  reck := by kernel_rfl
  tab := rfl
  cuts := rfl
def ikCX : Ing := { m := 16, ins := ikKe, G := ikCG, T := ikCT, hook := orHook (trueHook ikTru) (tblHook (tabOf ckFs) ikTbl), tab := tabOf ckFs, rows := [ikRow] }
theorem ikC_ok : okG ikCG 16 = true := by kernel_rfl
theorem ikC_lt : okLT 16 ikCG ikCT = true := by kernel_rfl
theorem ikC_seg : SegOk Try.prog (tabOf ckFs) 245 ((flatC (blkAt 2 (loopAt 9 (bodyOf Try.f3)))).take 2) ikS1 ikCX ikCW where
  lt := ikC_lt
  ok := ikC_ok
  hook := fun F => or_hooks ikC_lt rfl rfl ik_tru ik_all F
  n0 := rfl
  id := by kernel_rfl
  reck := by kernel_rfl
  tab := rfl
  cuts := rfl
def ikDX : Ing := { m := 17, ins := ikK2, G := ikDG, T := ikDT, hook := orHook (trueHook ikTru) (tblHook (tabOf ckFs) ikTbl), tab := tabOf ckFs, rows := [ikRow] }
theorem ikD_ok : okG ikDG 17 = true := by kernel_rfl
theorem ikD_lt : okLT 17 ikDG ikDT = true := by kernel_rfl
theorem ikD_seg : SegOk Try.prog (tabOf ckFs) 245 ((flatC (blkAt 2 (blkAt 2 (loopAt 9 (bodyOf Try.f3))))).take 2) ikS2 ikDX ikDW where
  lt := ikD_lt
  ok := ikD_ok
  hook := fun F => or_hooks ikD_lt rfl rfl ik_tru ik_all F
  n0 := rfl
  id := by kernel_rfl
  reck := by kernel_rfl
  tab := rfl
  cuts := rfl
def ikEX : Ing := { m := 18, ins := ikK3, G := ikEG, T := ikET, hook := orHook (trueHook ikTru) (tblHook (tabOf ckFs) ikTbl), tab := tabOf ckFs, rows := [ikRow] }
theorem ikE_ok : okG ikEG 18 = true := by kernel_rfl
theorem ikE_lt : okLT 18 ikEG ikET = true := by kernel_rfl
theorem ikE_seg : SegOk Try.prog (tabOf ckFs) 245 (flatC (yesAt 2 (blkAt 2 (blkAt 2 (loopAt 9 (bodyOf Try.f3)))))) ikS3 ikEX ikEW where
  lt := ikE_lt
  ok := ikE_ok
  hook := fun F => or_hooks ikE_lt rfl rfl ik_tru ik_all F
  n0 := rfl
  id := by kernel_rfl
  reck := by kernel_rfl
  tab := rfl
  cuts := rfl
def ikF1X : Ing := { m := 18, ins := ikK3, G := ikF1G, T := ikF1T, hook := orHook (trueHook ikTru) (tblHook (tabOf ckFs) ikTbl), tab := tabOf ckFs, rows := [ikRow] }
theorem ikF1_ok : okG ikF1G 18 = true := by kernel_rfl
theorem ikF1_lt : okLT 18 ikF1G ikF1T = true := by kernel_rfl
theorem ikF1_seg : SegOk Try.prog (tabOf ckFs) 245 ((flatC (noAt 2 (blkAt 2 (blkAt 2 (loopAt 9 (bodyOf Try.f3)))))).take 1) ikS3 ikF1X ikF1W where
  lt := ikF1_lt
  ok := ikF1_ok
  hook := fun F => or_hooks ikF1_lt rfl rfl ik_tru ik_all F
  n0 := rfl
  id := by kernel_rfl
  reck := by kernel_rfl
  tab := rfl
  cuts := rfl
def ikF2X : Ing := { m := 18, ins := ikK3, G := ikF2G, T := ikF2T, hook := orHook (trueHook ikTru) (tblHook (tabOf ckFs) ikTbl), tab := tabOf ckFs, rows := [ikRow] }
theorem ikF2_ok : okG ikF2G 18 = true := by kernel_rfl
theorem ikF2_lt : okLT 18 ikF2G ikF2T = true := by kernel_rfl
theorem ikF2_seg : SegOk Try.prog (tabOf ckFs) 245 ((flatC (noAt 1 (noAt 2 (blkAt 2 (blkAt 2 (loopAt 9 (bodyOf Try.f3))))))).take 1) (ikS4 143) ikF2X ikF2W where
  lt := ikF2_lt
  ok := ikF2_ok
  hook := fun F => or_hooks ikF2_lt rfl rfl ik_tru ik_all F
  n0 := rfl
  id := by kernel_rfl
  reck := by kernel_rfl
  tab := rfl
  cuts := rfl
def ikF3X : Ing := { m := 18, ins := ikK3, G := ikF3G, T := ikF3T, hook := orHook (trueHook ikTru) (tblHook (tabOf ckFs) ikTbl), tab := tabOf ckFs, rows := [ikRow] }
theorem ikF3_ok : okG ikF3G 18 = true := by kernel_rfl
theorem ikF3_lt : okLT 18 ikF3G ikF3T = true := by kernel_rfl
theorem ikF3_seg : SegOk Try.prog (tabOf ckFs) 245 ((flatC (noAt 1 (noAt 1 (noAt 2 (blkAt 2 (blkAt 2 (loopAt 9 (bodyOf Try.f3)))))))).take 1) (ikS4 151) ikF3X ikF3W where
  lt := ikF3_lt
  ok := ikF3_ok
  hook := fun F => or_hooks ikF3_lt rfl rfl ik_tru ik_all F
  n0 := rfl
  id := by kernel_rfl
  reck := by kernel_rfl
  tab := rfl
  cuts := rfl
def ikG1X : Ing := { m := 18, ins := ikK3, G := ikG1G, T := ikG1T, hook := orHook (trueHook ikTru) (tblHook (tabOf ckFs) ikTbl), tab := tabOf ckFs, rows := [ikRow] }
theorem ikG1_ok : okG ikG1G 18 = true := by kernel_rfl
theorem ikG1_lt : okLT 18 ikG1G ikG1T = true := by kernel_rfl
theorem ikG1_seg : SegOk Try.prog (tabOf ckFs) 245 (flatC (yesAt 1 (noAt 2 (blkAt 2 (blkAt 2 (loopAt 9 (bodyOf Try.f3))))))) (ikS4 143) ikG1X ikG1W where
  lt := ikG1_lt
  ok := ikG1_ok
  hook := fun F => or_hooks ikG1_lt rfl rfl ik_tru ik_all F
  n0 := rfl
  id := by kernel_rfl
  reck := by kernel_rfl
  tab := rfl
  cuts := rfl
def ikG2X : Ing := { m := 18, ins := ikK3, G := ikG2G, T := ikG2T, hook := orHook (trueHook ikTru) (tblHook (tabOf ckFs) ikTbl), tab := tabOf ckFs, rows := [ikRow] }
theorem ikG2_ok : okG ikG2G 18 = true := by kernel_rfl
theorem ikG2_lt : okLT 18 ikG2G ikG2T = true := by kernel_rfl
theorem ikG2_seg : SegOk Try.prog (tabOf ckFs) 245 (flatC (yesAt 1 (noAt 1 (noAt 2 (blkAt 2 (blkAt 2 (loopAt 9 (bodyOf Try.f3)))))))) (ikS4 151) ikG2X ikG2W where
  lt := ikG2_lt
  ok := ikG2_ok
  hook := fun F => or_hooks ikG2_lt rfl rfl ik_tru ik_all F
  n0 := rfl
  id := by kernel_rfl
  reck := by kernel_rfl
  tab := rfl
  cuts := rfl
def ikG3X : Ing := { m := 18, ins := ikK3, G := ikG3G, T := ikG3T, hook := orHook (trueHook ikTru) (tblHook (tabOf ckFs) ikTbl), tab := tabOf ckFs, rows := [ikRow] }
theorem ikG3_ok : okG ikG3G 18 = true := by kernel_rfl
theorem ikG3_lt : okLT 18 ikG3G ikG3T = true := by kernel_rfl
theorem ikG3_seg : SegOk Try.prog (tabOf ckFs) 245 (flatC (yesAt 1 (noAt 1 (noAt 1 (noAt 2 (blkAt 2 (blkAt 2 (loopAt 9 (bodyOf Try.f3))))))))) (ikS4 160) ikG3X ikG3W where
  lt := ikG3_lt
  ok := ikG3_ok
  hook := fun F => or_hooks ikG3_lt rfl rfl ik_tru ik_all F
  n0 := rfl
  id := by kernel_rfl
  reck := by kernel_rfl
  tab := rfl
  cuts := rfl
def ikHX : Ing := { m := 18, ins := ikK3, G := ikHG, T := ikHT, hook := orHook (trueHook ikTru) (tblHook (tabOf ckFs) ikTbl), tab := tabOf ckFs, rows := [ikRow] }
theorem ikH_ok : okG ikHG 18 = true := by kernel_rfl
theorem ikH_lt : okLT 18 ikHG ikHT = true := by kernel_rfl
theorem ikH_seg : SegOk Try.prog (tabOf ckFs) 245 ((flatC (noAt 1 (noAt 1 (noAt 1 (noAt 2 (blkAt 2 (blkAt 2 (loopAt 9 (bodyOf Try.f3))))))))).take 4) (ikS4 160) ikHX ikHW where
  lt := ikH_lt
  ok := ikH_ok
  hook := fun F => or_hooks ikH_lt rfl rfl ik_tru ik_all F
  n0 := rfl
  id := by kernel_rfl
  reck := by kernel_rfl
  tab := rfl
  cuts := rfl
def ikIX : Ing := { m := 18, ins := ikK6, G := ikIG, T := ikIT, hook := orHook (trueHook ikTru) (tblHook (tabOf ckFs) ikTbl), tab := tabOf ckFs, rows := [⟨.symi .i64 1, []⟩] }
theorem ikI_ok : okG ikIG 18 = true := by kernel_rfl
theorem ikI_lt : okLT 18 ikIG ikIT = true := by kernel_rfl
theorem ikI_seg : SegOk Try.prog (tabOf ckFs) 245 ([loopAt 4 (noAt 1 (noAt 1 (noAt 1 (noAt 2 (blkAt 2 (blkAt 2 (loopAt 9 (bodyOf Try.f3))))))))]) ikS6 ikIX ikIW where
  lt := ikI_lt
  ok := ikI_ok
  hook := fun F => or_hooks ikI_lt rfl rfl ik_tru ik_all F
  n0 := rfl
  id := by kernel_rfl
  reck := by kernel_rfl
  tab := rfl
  cuts := rfl
def ikJX : Ing := { m := 15, ins := ikK7, G := ikJG, T := ikJT, hook := orHook (trueHook ikTru) (tblHook (tabOf ckFs) ikTbl), tab := tabOf ckFs, rows := [⟨.symi .i64 1, []⟩] }
theorem ikJ_ok : okG ikJG 15 = true := by kernel_rfl
theorem ikJ_lt : okLT 15 ikJG ikJT = true := by kernel_rfl
theorem ikJ_seg : SegOk Try.prog (tabOf ckFs) 245 ((flatC (noAt 1 (noAt 1 (noAt 1 (noAt 2 (blkAt 2 (blkAt 2 (loopAt 9 (bodyOf Try.f3))))))))).drop 5) ikS7 ikJX ikJW where
  lt := ikJ_lt
  ok := ikJ_ok
  hook := fun F => or_hooks ikJ_lt rfl rfl ik_tru ik_all F
  n0 := rfl
  id := by kernel_rfl
  reck := by kernel_rfl
  tab := rfl
  cuts := rfl
def ikKX : Ing := { m := 13, ins := ikK1, G := ikKG, T := ikKT, hook := orHook (trueHook ikTru) (tblHook (tabOf ckFs) ikTbl), tab := tabOf ckFs, rows := [⟨.symi .i64 1, []⟩] }
theorem ikK_ok : okG ikKG 13 = true := by kernel_rfl
theorem ikK_lt : okLT 13 ikKG ikKT = true := by kernel_rfl
theorem ikK_seg : SegOk Try.prog (tabOf ckFs) 245 ((flatC (blkAt 2 (loopAt 9 (bodyOf Try.f3)))).drop 3) ikS1 ikKX ikKW where
  lt := ikK_lt
  ok := ikK_ok
  hook := fun F => or_hooks ikK_lt rfl rfl ik_tru ik_all F
  n0 := rfl
  id := by kernel_rfl
  reck := by kernel_rfl
  tab := rfl
  cuts := rfl
def ikLX : Ing := { m := 13, ins := ikK1, G := ikLG, T := ikLT, hook := orHook (trueHook ikTru) (tblHook (tabOf ckFs) ikTbl), tab := tabOf ckFs, rows := [⟨.symi .i64 1, []⟩] }
theorem ikL_ok : okG ikLG 13 = true := by kernel_rfl
theorem ikL_lt : okLT 13 ikLG ikLT = true := by kernel_rfl
theorem ikL_seg : SegOk Try.prog (tabOf ckFs) 245 ((flatC (loopAt 9 (bodyOf Try.f3))).drop 3) ikS1 ikLX ikLW where
  lt := ikL_lt
  ok := ikL_ok
  hook := fun F => or_hooks ikL_lt rfl rfl ik_tru ik_all F
  n0 := rfl
  id := by kernel_rfl
  reck := by kernel_rfl
  tab := rfl
  cuts := rfl
def ikMX : Ing := { m := 10, ins := ikKdX, G := ikMG, T := ikMT, hook := orHook (trueHook ikTru) (tblHook (tabOf ckFs) ikTbl), tab := tabOf ckFs, rows := [] }
theorem ikM_ok : okG ikMG 10 = true := by kernel_rfl
theorem ikM_lt : okLT 10 ikMG ikMT = true := by kernel_rfl
theorem ikM_seg : SegOk Try.prog (tabOf ckFs) 245 (((flatC (bodyOf Try.f3)).drop 10).take 3) ikSX ikMX ikMW where
  lt := ikM_lt
  ok := ikM_ok
  hook := fun F => or_hooks ikM_lt rfl rfl ik_tru ik_all F
  n0 := rfl
  id := by kernel_rfl
  reck := by kernel_rfl
  tab := rfl
  cuts := rfl
def ikNX : Ing := { m := 11, ins := ikK8, G := ikNG, T := ikNT, hook := orHook (trueHook ikTru) (tblHook (tabOf ckFs) ikTbl), tab := tabOf ckFs, rows := [] }
theorem ikN_ok : okG ikNG 11 = true := by kernel_rfl
theorem ikN_lt : okLT 11 ikNG ikNT = true := by kernel_rfl
theorem ikN_seg : SegOk Try.prog (tabOf ckFs) 245 ([loopAt 13 (bodyOf Try.f3)]) ikS8 ikNX ikNW where
  lt := ikN_lt
  ok := ikN_ok
  hook := fun F => or_hooks ikN_lt rfl rfl ik_tru ik_all F
  n0 := rfl
  id := by kernel_rfl
  reck := by kernel_rfl
  tab := rfl
  cuts := rfl
def ikOX : Ing := { m := 9, ins := ikK9, G := ikOG, T := ikOT, hook := orHook (trueHook ikTru) (tblHook (tabOf ckFs) ikTbl), tab := tabOf ckFs, rows := [] }
theorem ikO_ok : okG ikOG 9 = true := by kernel_rfl
theorem ikO_lt : okLT 9 ikOG ikOT = true := by kernel_rfl
theorem ikO_seg : SegOk Try.prog (tabOf ckFs) 245 (((flatC (bodyOf Try.f3)).drop 14).take 1) ikS9 ikOX ikOW where
  lt := ikO_lt
  ok := ikO_ok
  hook := fun F => or_hooks ikO_lt rfl rfl ik_tru ik_all F
  n0 := rfl
  id := by kernel_rfl
  reck := by kernel_rfl
  tab := rfl
  cuts := rfl
def ikQX : Ing := { m := 10, ins := ikK10, G := ikQG, T := ikQT, hook := orHook (trueHook ikTru) (tblHook (tabOf ckFs) ikTbl), tab := tabOf ckFs, rows := [] }
theorem ikQ_ok : okG ikQG 10 = true := by kernel_rfl
theorem ikQ_lt : okLT 10 ikQG ikQT = true := by kernel_rfl
theorem ikQ_seg : SegOk Try.prog (tabOf ckFs) 245 ([loopAt 15 (bodyOf Try.f3)]) ikS10 ikQX ikQW where
  lt := ikQ_lt
  ok := ikQ_ok
  hook := fun F => or_hooks ikQ_lt rfl rfl ik_tru ik_all F
  n0 := rfl
  id := by kernel_rfl
  reck := by kernel_rfl
  tab := rfl
  cuts := rfl
def ikRX : Ing := { m := 1, ins := [some .u8], G := ikRG, T := ikRT, hook := orHook (trueHook ikTru) (tblHook (tabOf ckFs) ikTbl), tab := tabOf ckFs, rows := [] }
theorem ikR_ok : okG ikRG 1 = true := by kernel_rfl
theorem ikR_lt : okLT 1 ikRG ikRT = true := by kernel_rfl
theorem ikR_seg : SegOk Try.prog (tabOf ckFs) 245 ((flatC (bodyOf Try.f3)).drop 16) ikS11 ikRX ikRW where
  lt := ikR_lt
  ok := ikR_ok
  hook := fun F => or_hooks ikR_lt rfl rfl ik_tru ik_all F
  n0 := rfl
  id := by kernel_rfl
  reck := by kernel_rfl
  tab := rfl
  cuts := rfl

/-! ### What is so -/

def prOk (j : Nat) (σ : Sig) : Prop := ∀ v, v < 8 → 0 ≤ σ.ival (j + v) ∧ σ.ival (j + v) ≤ 7
theorem prOk_of {j i : Nat} {σ τ : Sig} (h0 : τ.ival (i + 0) = σ.ival (j + 0)) (h1 : τ.ival (i + 1) = σ.ival (j + 1)) (h2 : τ.ival (i + 2) = σ.ival (j + 2)) (h3 : τ.ival (i + 3) = σ.ival (j + 3)) (h4 : τ.ival (i + 4) = σ.ival (j + 4)) (h5 : τ.ival (i + 5) = σ.ival (j + 5)) (h6 : τ.ival (i + 6) = σ.ival (j + 6)) (h7 : τ.ival (i + 7) = σ.ival (j + 7)) (h : prOk j σ) : prOk i τ := by
  intro v hv
  match v, hv with
  | 0, _ => rw [h0]; exact h 0 (by decide)
  | 1, _ => rw [h1]; exact h 1 (by decide)
  | 2, _ => rw [h2]; exact h 2 (by decide)
  | 3, _ => rw [h3]; exact h 3 (by decide)
  | 4, _ => rw [h4]; exact h 4 (by decide)
  | 5, _ => rw [h5]; exact h 5 (by decide)
  | 6, _ => rw [h6]; exact h 6 (by decide)
  | 7, _ => rw [h7]; exact h 7 (by decide)
  | v + 8, hv => exact absurd hv (by omega)
theorem prOk_agree {j q : Nat} {σ τ : Sig} (hq : j + 8 ≤ q) (ag : Agree q σ τ) (h : prOk j σ) : prOk j τ := fun v hv => by
  rw [← (ag.val (j + v) (by omega)).1]; exact h v hv
def JB (X : Fz) (k : Nat) (σ : Sig) : Prop := RowHd X σ ∧ prOk 5 σ ∧ σ.ival 0 < X.len ∧ ((X.len : Int) - σ.ival 0).toNat = k
def JE (X : Fz) (k : Nat) (σ : Sig) : Prop := JB X k σ ∧ RowsOk σ [ikRow]
theorem JB_agree {X : Fz} {k q : Nat} (hq : 13 ≤ q) (σ τ : Sig) (ag : Agree q σ τ) (h : JB X k σ) : JB X k τ :=
  ⟨h.1.agree (by omega) ag, prOk_agree (by omega) ag h.2.1, by rw [← (ag.val 0 (by omega)).1]; exact h.2.2.1, by rw [← (ag.val 0 (by omega)).1]; exact h.2.2.2⟩
theorem JE_agree {X : Fz} {k q : Nat} (hq : 16 ≤ q) (σ τ : Sig) (ag : Agree q σ τ) (h : JE X k σ) : JE X k τ :=
  ⟨JB_agree (by omega) σ τ ag h.1, h.2.same (by decide) ag.ext.symm (ag.val 0 (by omega)).1.symm (ag.val 1 (by omega)).1.symm (fun j hj => (ag.val (13 + j) (by have : j < 3 := hj; omega)).1.symm)⟩
theorem JB_of {X : Fz} {k : Nat} {σ τ : Sig} (he : τ.ext = σ.ext) (h0 : τ.ival 0 = σ.ival 0) (h1 : τ.ival 1 = σ.ival 1) (h5 : τ.ival 5 = σ.ival 5) (h6 : τ.ival 6 = σ.ival 6) (h7 : τ.ival 7 = σ.ival 7) (h8 : τ.ival 8 = σ.ival 8) (h9 : τ.ival 9 = σ.ival 9) (h10 : τ.ival 10 = σ.ival 10) (h11 : τ.ival 11 = σ.ival 11) (h12 : τ.ival 12 = σ.ival 12) (h : JB X k σ) : JB X k τ := by
  refine ⟨?_, prOk_of (i := 5) (j := 5) h5 h6 h7 h8 h9 h10 h11 h12 h.2.1, by rw [h0]; exact h.2.2.1, by rw [h0]; exact h.2.2.2⟩
  have := h.1
  unfold RowHd at this ⊢
  rw [he, h0, h1]; exact this
theorem JE_of {X : Fz} {k : Nat} {σ τ : Sig} (he : τ.ext = σ.ext) (h0 : τ.ival 0 = σ.ival 0) (h1 : τ.ival 1 = σ.ival 1) (h5 : τ.ival 5 = σ.ival 5) (h6 : τ.ival 6 = σ.ival 6) (h7 : τ.ival 7 = σ.ival 7) (h8 : τ.ival 8 = σ.ival 8) (h9 : τ.ival 9 = σ.ival 9) (h10 : τ.ival 10 = σ.ival 10) (h11 : τ.ival 11 = σ.ival 11) (h12 : τ.ival 12 = σ.ival 12) (h13 : τ.ival 13 = σ.ival 13) (h14 : τ.ival 14 = σ.ival 14) (h15 : τ.ival 15 = σ.ival 15) (h : JE X k σ) : JE X k τ :=
  ⟨JB_of he h0 h1 h5 h6 h7 h8 h9 h10 h11 h12 h.1, h.2.same (by decide) he h0 h1 (fun j hj => by
    match j, hj with
    | 0, _ => exact h13
    | 1, _ => exact h14
    | 2, _ => exact h15
    | j + 3, hj => exact absurd hj (by show ¬ j + 3 < 3; omega))⟩
theorem w64 {n : Int} (h0 : -9223372036854775808 ≤ n) (h1 : n ≤ 9223372036854775807) : IntKind.i64.wrap n = n := by
  simp [IntKind.wrap, IntKind.bits, IntKind.signed]; omega
theorem bit0 {x n : Int} {v : Nat} (hv : min n.toNat IntKind.u8.bits = v) (h0 : 0 ≤ x) : ((x.fdiv (2 ^ (min n.toNat IntKind.u8.bits))).tmod 2 == 0) = !bitI x v := by
  rw [shr_of hv h0, Int.tmod_eq_emod_of_nonneg (Int.ediv_nonneg h0 (Int.pow_nonneg (by omega)))]
  unfold bitI
  rcases (show x / 2 ^ v % 2 = 0 ∨ x / 2 ^ v % 2 = 1 by omega) with h | h <;> rw [h] <;> decide
theorem best_cases (mask pend p0 p1 p2 p3 p4 p5 p6 p7 lev masked : Int) : IsBest (fun v => mayI mask pend masked lev (prAt p0 p1 p2 p3 p4 p5 p6 p7 v) v) (prAt p0 p1 p2 p3 p4 p5 p6 p7) 8 (best8 mask pend p0 p1 p2 p3 p4 p5 p6 p7 lev masked 8) := by
  rw [best8_is]; exact bestG_is _ _ 8
theorem mayI_iff {mask pend masked lev p : Int} {v : Nat} (h0 : 0 ≤ lev) : mayI mask pend masked lev p v = true ↔ (bitI pend v && bitI mask v && !bitI masked v) = true ∧ lev < p := by
  unfold mayI
  rw [Bool.and_eq_true, Bool.and_eq_true, decide_eq_true_eq, decide_eq_true_eq]
  constructor
  · rintro ⟨⟨h1, h2⟩, h3⟩; exact ⟨h1, h3⟩
  · rintro ⟨h1, h2⟩; exact ⟨⟨h1, by omega⟩, h2⟩

set_option maxRecDepth 100000 in
theorem ikA_ob {W0 : World} {Z : Exit → Act → World → Prop} {X : Fz} {k : Nat} (τ : Sig) (e : Eqs τ 9 ikAG) (ht : τ.tab = (tabOf ckFs)) (hin : InsOk τ 9 ((cellsOf ikSs).map kindC ++ [some .i64])) (hx : τ.ext = fun i => if i = 0 then some X else none) (h8 : τ.ival 8 = X.len) :
    segsW τ (fun x s σ2 => (x = .normal ∧ s = ikS1 ∧ InsOk σ2 13 ikK1 ∧ (fun σ => RowHd X σ ∧ prOk 5 σ) σ2 ∧ σ2.tab = (tabOf ckFs)) ∨ (x ≠ .normal ∧ EndZ (tabOf ckFs) 245 W0 Z x s σ2)) ikAW [] := by
  have e9 : τ.ival 9 = ((τ.ival 0 : Int).tmod 8) := eqI (e.at 0 _ rfl rfl) rfl
  have e10 : τ.ival 10 = IntKind.i64.wrap (τ.ival 9) := eqI (e.at 1 _ rfl rfl) rfl
  have e11 : τ.ival 11 = ((τ.ival 1 : Int).tmod 8) := eqI (e.at 2 _ rfl rfl) rfl
  have e12 : τ.ival 12 = IntKind.i64.wrap (τ.ival 11) := eqI (e.at 3 _ rfl rfl) rfl
  have e13 : τ.ival 13 = ((τ.ival 2 : Int).tmod 8) := eqI (e.at 4 _ rfl rfl) rfl
  have e14 : τ.ival 14 = IntKind.i64.wrap (τ.ival 13) := eqI (e.at 5 _ rfl rfl) rfl
  have e15 : τ.ival 15 = ((τ.ival 3 : Int).tmod 8) := eqI (e.at 6 _ rfl rfl) rfl
  have e16 : τ.ival 16 = IntKind.i64.wrap (τ.ival 15) := eqI (e.at 7 _ rfl rfl) rfl
  have e17 : τ.ival 17 = ((τ.ival 4 : Int).tmod 8) := eqI (e.at 8 _ rfl rfl) rfl
  have e18 : τ.ival 18 = IntKind.i64.wrap (τ.ival 17) := eqI (e.at 9 _ rfl rfl) rfl
  have e19 : τ.ival 19 = ((τ.ival 5 : Int).tmod 8) := eqI (e.at 10 _ rfl rfl) rfl
  have e20 : τ.ival 20 = IntKind.i64.wrap (τ.ival 19) := eqI (e.at 11 _ rfl rfl) rfl
  have e21 : τ.ival 21 = ((τ.ival 6 : Int).tmod 8) := eqI (e.at 12 _ rfl rfl) rfl
  have e22 : τ.ival 22 = IntKind.i64.wrap (τ.ival 21) := eqI (e.at 13 _ rfl rfl) rfl
  have e23 : τ.ival 23 = ((τ.ival 7 : Int).tmod 8) := eqI (e.at 14 _ rfl rfl) rfl
  have e24 : τ.ival 24 = IntKind.i64.wrap (τ.ival 23) := eqI (e.at 15 _ rfl rfl) rfl
  have r0 : 0 ≤ τ.ival 10 ∧ τ.ival 10 ≤ 7 := by
    have := u8_range (hin 0 .u8 (by decide) rfl)
    rw [e10, e9, Int.tmod_eq_emod_of_nonneg this.1, w64 (by omega) (by omega)]; omega
  have r1 : 0 ≤ τ.ival 12 ∧ τ.ival 12 ≤ 7 := by
    have := u8_range (hin 1 .u8 (by decide) rfl)
    rw [e12, e11, Int.tmod_eq_emod_of_nonneg this.1, w64 (by omega) (by omega)]; omega
  have r2 : 0 ≤ τ.ival 14 ∧ τ.ival 14 ≤ 7 := by
    have := u8_range (hin 2 .u8 (by decide) rfl)
    rw [e14, e13, Int.tmod_eq_emod_of_nonneg this.1, w64 (by omega) (by omega)]; omega
  have r3 : 0 ≤ τ.ival 16 ∧ τ.ival 16 ≤ 7 := by
    have := u8_range (hin 3 .u8 (by decide) rfl)
    rw [e16, e15, Int.tmod_eq_emod_of_nonneg this.1, w64 (by omega) (by omega)]; omega
  have r4 : 0 ≤ τ.ival 18 ∧ τ.ival 18 ≤ 7 := by
    have := u8_range (hin 4 .u8 (by decide) rfl)
    rw [e18, e17, Int.tmod_eq_emod_of_nonneg this.1, w64 (by omega) (by omega)]; omega
  have r5 : 0 ≤ τ.ival 20 ∧ τ.ival 20 ≤ 7 := by
    have := u8_range (hin 5 .u8 (by decide) rfl)
    rw [e20, e19, Int.tmod_eq_emod_of_nonneg this.1, w64 (by omega) (by omega)]; omega
  have r6 : 0 ≤ τ.ival 22 ∧ τ.ival 22 ≤ 7 := by
    have := u8_range (hin 6 .u8 (by decide) rfl)
    rw [e22, e21, Int.tmod_eq_emod_of_nonneg this.1, w64 (by omega) (by omega)]; omega
  have r7 : 0 ≤ τ.ival 24 ∧ τ.ival 24 ≤ 7 := by
    have := u8_range (hin 7 .u8 (by decide) rfl)
    rw [e24, e23, Int.tmod_eq_emod_of_nonneg this.1, w64 (by omega) (by omega)]; omega
  refine fun hF => .inl ⟨rfl, rfl, insOk_asg e hin 12 (by kernel_rfl), ⟨⟨hx, h8, by show (0 : Int) ≤ 0; decide, by show (0 : Int) ≤ X.len; omega⟩, fun v hv => ?_⟩, ht⟩
  match v, hv with
  | 0, _ => exact r0
  | 1, _ => exact r1
  | 2, _ => exact r2
  | 3, _ => exact r3
  | 4, _ => exact r4
  | 5, _ => exact r5
  | 6, _ => exact r6
  | 7, _ => exact r7
  | v + 8, hv => exact absurd hv (by omega)

set_option maxRecDepth 100000 in
theorem ikB_ob {W0 : World} {Z : Exit → Act → World → Prop} {I : Nat → Act → World → Prop} {c2 : List Code} {X : Fz} {k : Nat} {v : Value} (hX : RowV W0 [.i .u8, .i .u8, .i .u8] v X) (fin : Stage Try.prog (tabOf ckFs) 245 W0 Z c2 ikSX 10 ikKdX (prOk 2)) (τ : Sig) (e : Eqs τ 16 ikBG) (ht : τ.tab = (tabOf ckFs)) (hin : InsOk τ 16 ikKe) (hr : RowEl 13 [.i .u8, .i .u8, .i .u8] X τ) (hp : prOk 5 τ) (hk : ((X.len : Int) - τ.ival 0).toNat = k) :
    segsW τ (fun x s σ2 => (x = .normal ∧ s = ikS1 ∧ InsOk σ2 16 ikKe ∧ JE X k σ2 ∧ σ2.tab = (tabOf ckFs)) ∨ (x ≠ .normal ∧ EndZ (tabOf ckFs) 245 W0 (LoopZ Try.prog 2 c2 Z I k) x s σ2)) ikBW [] := by
  have e16 : τ.bval 16 = decide (τ.ival 0 < τ.ival 1) := eqB (e.at 0 _ rfl rfl) rfl
  have hd := hr.hd (by decide)
  have out : ∀ σ2 : Sig, InsOk σ2 10 ikKdX → prOk 2 σ2 → σ2.tab = (tabOf ckFs) → EndZ (tabOf ckFs) 245 W0 (LoopZ Try.prog 2 c2 Z I k) (.exit 2) ikSX σ2 := fun σ2 h1 h2 h3 => EndZ.out (by simp) (EndZ.blk fin (.inr rfl) h1 h2 h3)
  refine ⟨⟨fun hF => .inl ⟨rfl, rfl, insOk_asg e hin 12 (by kernel_rfl), JE_of (σ := τ) rfl rfl rfl rfl rfl rfl rfl rfl rfl rfl rfl rfl rfl rfl ⟨⟨hd, hp, ?_, hk⟩, hr.rows hX (by decide)⟩, ht⟩, fun hF => .inr ⟨by simp, out _ (insOk_asg e hin 12 (by kernel_rfl)) (prOk_of (σ := τ) (j := 5) rfl rfl rfl rfl rfl rfl rfl rfl hp) ht⟩⟩, fun hF => .inr ⟨by simp, out _ (insOk_asg e hin 12 (by kernel_rfl)) (prOk_of (σ := τ) (j := 5) rfl rfl rfl rfl rfl rfl rfl rfl hp) ht⟩⟩
  have h : τ.bval 16 = true := hF.2.1
  rw [e16, decide_eq_true_eq, hd.2.1] at h
  exact h

set_option maxRecDepth 100000 in
theorem ikC_ob {W0 : World} {Z : Exit → Act → World → Prop} {X : Fz} {k : Nat} (τ : Sig) (e : Eqs τ 16 ikCG) (ht : τ.tab = (tabOf ckFs)) (hin : InsOk τ 16 ikKe) (hj : JE X k τ) : segsW τ (fun x s σ2 => (x = .normal ∧ s = ikS2 ∧ InsOk σ2 17 ikK2 ∧ JE X k σ2 ∧ σ2.tab = (tabOf ckFs)) ∨ (x ≠ .normal ∧ EndZ (tabOf ckFs) 245 W0 Z x s σ2)) ikCW [] := by
  have e16 : τ.bval 16 = decide (0 ≤ τ.ival 0) := eqB (e.at 0 _ rfl rfl) rfl
  have e17 : τ.bval 17 = decide (τ.ival 0 < τ.ival 1) := eqB (e.at 1 _ rfl rfl) rfl
  have n1 : τ.bval 16 = false → False := by intro h; rw [e16, decide_eq_false_iff_not] at h; exact h hj.1.1.2.2.1
  have n2 : τ.bval 17 = false → False := by intro h; rw [e17, decide_eq_false_iff_not, hj.1.1.2.1] at h; exact h hj.1.2.2.1
  exact ⟨⟨fun hF => .inl ⟨rfl, rfl, insOk_asg e hin 12 (by kernel_rfl), JE_of (σ := τ) rfl rfl rfl rfl rfl rfl rfl rfl rfl rfl rfl rfl rfl rfl hj, ht⟩, fun hF => n2 hF.1⟩, fun hF => n1 hF.1⟩

set_option maxRecDepth 100000 in
theorem ikD_ob {W0 : World} {Z : Exit → Act → World → Prop} {X : Fz} {k : Nat} (τ : Sig) (e : Eqs τ 17 ikDG) (ht : τ.tab = (tabOf ckFs)) (hin : InsOk τ 17 ikK2) (hj : JE X k τ) : segsW τ (fun x s σ2 => (x = .normal ∧ s = ikS3 ∧ InsOk σ2 18 ikK3 ∧ JE X k σ2 ∧ σ2.tab = (tabOf ckFs)) ∨ (x ≠ .normal ∧ EndZ (tabOf ckFs) 245 W0 Z x s σ2)) ikDW [] := by
  exact ⟨fun hF => .inl ⟨rfl, rfl, insOk_asg e hin 12 (by kernel_rfl), JE_of (σ := τ) rfl rfl rfl rfl rfl rfl rfl rfl rfl rfl rfl rfl rfl rfl hj, ht⟩, ⟨fun hF => .inl ⟨rfl, rfl, insOk_asg e hin 12 (by kernel_rfl), JE_of (σ := τ) rfl rfl rfl rfl rfl rfl rfl rfl rfl rfl rfl rfl rfl rfl hj, ht⟩, fun hF => .inl ⟨rfl, rfl, insOk_asg e hin 12 (by kernel_rfl), JE_of (σ := τ) rfl rfl rfl rfl rfl rfl rfl rfl rfl rfl rfl rfl rfl rfl hj, ht⟩⟩⟩

set_option maxRecDepth 100000 in
theorem ikF1_ob {W0 : World} {Z : Exit → Act → World → Prop} {X : Fz} {k : Nat} (τ : Sig) (e : Eqs τ 18 ikF1G) (ht : τ.tab = (tabOf ckFs)) (hin : InsOk τ 18 ikK3) (hj : JE X k τ) : segsW τ (fun x s σ2 => (x = .normal ∧ s = (ikS4 143) ∧ InsOk σ2 18 ikK3 ∧ JE X k σ2 ∧ σ2.tab = (tabOf ckFs)) ∨ (x ≠ .normal ∧ EndZ (tabOf ckFs) 245 W0 Z x s σ2)) ikF1W [] := by
  exact fun hF => .inl ⟨rfl, rfl, insOk_asg e hin 12 (by kernel_rfl), JE_of (σ := τ) rfl rfl rfl rfl rfl rfl rfl rfl rfl rfl rfl rfl rfl rfl hj, ht⟩

set_option maxRecDepth 100000 in
theorem ikF2_ob {W0 : World} {Z : Exit → Act → World → Prop} {X : Fz} {k : Nat} (τ : Sig) (e : Eqs τ 18 ikF2G) (ht : τ.tab = (tabOf ckFs)) (hin : InsOk τ 18 ikK3) (hj : JE X k τ) : segsW τ (fun x s σ2 => (x = .normal ∧ s = (ikS4 151) ∧ InsOk σ2 18 ikK3 ∧ JE X k σ2 ∧ σ2.tab = (tabOf ckFs)) ∨ (x ≠ .normal ∧ EndZ (tabOf ckFs) 245 W0 Z x s σ2)) ikF2W [] := by
  exact fun hF => .inl ⟨rfl, rfl, insOk_asg e hin 12 (by kernel_rfl), JE_of (σ := τ) rfl rfl rfl rfl rfl rfl rfl rfl rfl rfl rfl rfl rfl rfl hj, ht⟩

set_option maxRecDepth 100000 in
theorem ikF3_ob {W0 : World} {Z : Exit → Act → World → Prop} {X : Fz} {k : Nat} (τ : Sig) (e : Eqs τ 18 ikF3G) (ht : τ.tab = (tabOf ckFs)) (hin : InsOk τ 18 ikK3) (hj : JE X k τ) : segsW τ (fun x s σ2 => (x = .normal ∧ s = (ikS4 160) ∧ InsOk σ2 18 ikK3 ∧ JE X k σ2 ∧ σ2.tab = (tabOf ckFs)) ∨ (x ≠ .normal ∧ EndZ (tabOf ckFs) 245 W0 Z x s σ2)) ikF3W [] := by
  exact fun hF => .inl ⟨rfl, rfl, insOk_asg e hin 12 (by kernel_rfl), JE_of (σ := τ) rfl rfl rfl rfl rfl rfl rfl rfl rfl rfl rfl rfl rfl rfl hj, ht⟩

set_option maxRecDepth 100000 in
theorem ikE_ob {W0 : World} {Z : Exit → Act → World → Prop} {X : Fz} {k : Nat} (τ : Sig) (e : Eqs τ 18 ikEG) (ht : τ.tab = (tabOf ckFs)) (hin : InsOk τ 18 ikK3) (hj : JE X k τ) : segsW τ (fun x s σ2 => (x = .normal ∧ s = ikS1 ∧ InsOk σ2 13 ikK1 ∧ JB X k σ2 ∧ σ2.tab = (tabOf ckFs)) ∨ (x ≠ .normal ∧ EndZ (tabOf ckFs) 245 W0 Z x s σ2)) ikEW [] := by
  exact fun hF => .inl ⟨rfl, rfl, insOk_asg e hin 12 (by kernel_rfl), JB_of (σ := τ) rfl rfl rfl rfl rfl rfl rfl rfl rfl rfl rfl hj.1, ht⟩

set_option maxRecDepth 100000 in
theorem ikG3_ob {W0 : World} {Z : Exit → Act → World → Prop} {X : Fz} {k : Nat} (τ : Sig) (e : Eqs τ 18 ikG3G) (ht : τ.tab = (tabOf ckFs)) (hin : InsOk τ 18 ikK3) (hj : JE X k τ) : segsW τ (fun x s σ2 => (x = .normal ∧ s = ikS1 ∧ InsOk σ2 13 ikK1 ∧ JB X k σ2 ∧ σ2.tab = (tabOf ckFs)) ∨ (x ≠ .normal ∧ EndZ (tabOf ckFs) 245 W0 Z x s σ2)) ikG3W [] := by
  exact fun hF => .inl ⟨rfl, rfl, insOk_asg e hin 12 (by kernel_rfl), JB_of (σ := τ) rfl rfl rfl rfl rfl rfl rfl rfl rfl rfl rfl hj.1, ht⟩

set_option maxRecDepth 100000 in
theorem ikG1_ob {W0 : World} {Z : Exit → Act → World → Prop} {X : Fz} {k : Nat} (τ : Sig) (e : Eqs τ 18 ikG1G) (ht : τ.tab = (tabOf ckFs)) (hin : InsOk τ 18 ikK3) (hj : JE X k τ) : segsW τ (fun x s σ2 => (x = .normal ∧ s = ikS1 ∧ InsOk σ2 13 ikK1 ∧ JB X k σ2 ∧ σ2.tab = (tabOf ckFs)) ∨ (x ≠ .normal ∧ EndZ (tabOf ckFs) 245 W0 Z x s σ2)) ikG1W [] := by
  have e18 : τ.ival 18 = IntKind.i32.wrap (τ.ival 14) := eqI (e.at 0 _ rfl rfl) rfl
  have e19 : τ.ival 19 = IntKind.i32.wrap (τ.ival 18 + 256) := eqI (e.at 1 _ rfl rfl) rfl
  have e20 : τ.ival 20 = IntKind.u8.wrap (τ.ival 19) := eqI (e.at 2 _ rfl rfl) rfl
  have a := u8_range (hin 14 .u8 (by decide) rfl)
  have h20 : τ.ival 20 = τ.ival 14 := by
    rw [e20, e19, e18]
    simp [IntKind.wrap, IntKind.bits, IntKind.signed]; omega
  refine fun hF => ⟨⟨?_, trivial⟩, .inl ⟨rfl, rfl, insOk_asg e hin 12 (by kernel_rfl), JB_of (σ := τ) rfl rfl rfl rfl rfl rfl rfl rfl rfl rfl rfl hj.1, ht⟩⟩
  show AVal.int .u8 (τ.ival 20) = AVal.int .u8 (τ.ival 14)
  rw [h20]

set_option maxRecDepth 100000 in
theorem ikG2_ob {W0 : World} {Z : Exit → Act → World → Prop} {X : Fz} {k : Nat} (τ : Sig) (e : Eqs τ 18 ikG2G) (ht : τ.tab = (tabOf ckFs)) (hin : InsOk τ 18 ikK3) (hj : JE X k τ) : segsW τ (fun x s σ2 => (x = .normal ∧ s = ikS1 ∧ InsOk σ2 13 ikK1 ∧ JB X k σ2 ∧ σ2.tab = (tabOf ckFs)) ∨ (x ≠ .normal ∧ EndZ (tabOf ckFs) 245 W0 Z x s σ2)) ikG2W [] := by
  have e18 : τ.ival 18 = IntKind.i32.wrap (τ.ival 14) := eqI (e.at 0 _ rfl rfl) rfl
  have e19 : τ.ival 19 = IntKind.u8.wrap (τ.ival 18) := eqI (e.at 1 _ rfl rfl) rfl
  have e20 : τ.ival 20 = IntKind.u8.wrap (BitVec.ofInt IntKind.u8.bits (τ.ival 3) &&& ~~~BitVec.ofInt IntKind.u8.bits (τ.ival 19)).toNat := eqI (e.at 2 _ rfl rfl) rfl
  have e21 : τ.ival 21 = IntKind.u8.wrap (BitVec.ofInt IntKind.u8.bits (τ.ival 3) &&& ~~~BitVec.ofInt IntKind.u8.bits (τ.ival 14)).toNat := eqI (e.at 3 _ rfl rfl) rfl
  have a := u8_range (hin 14 .u8 (by decide) rfl)
  have h19 : τ.ival 19 = τ.ival 14 := by
    rw [e19, e18]
    simp [IntKind.wrap, IntKind.bits, IntKind.signed]; omega
  refine fun hF => ⟨⟨?_, trivial⟩, .inl ⟨rfl, rfl, insOk_asg e hin 12 (by kernel_rfl), JB_of (σ := τ) rfl rfl rfl rfl rfl rfl rfl rfl rfl rfl rfl hj.1, ht⟩⟩
  show AVal.int .u8 (τ.ival 20) = AVal.int .u8 (τ.ival 21)
  rw [e20, e21, h19]

def J6 (X : Fz) (k : Nat) (σ : Sig) : Prop := JB X k σ ∧ (0 ≤ σ.ival 13 ∧ σ.ival 13 ≤ 8) ∧ σ.ival 14 = best8 (σ.ival 2) (σ.ival 3) (σ.ival 5) (σ.ival 6) (σ.ival 7) (σ.ival 8) (σ.ival 9) (σ.ival 10) (σ.ival 11) (σ.ival 12) (σ.ival 13) (σ.ival 4) 8 ∧ σ.bval 15 = decide (0 ≤ σ.ival 14) ∧
  (∀ v, v < 8 → bitI (σ.ival 16) v = (bitI (σ.ival 3) v && bitI (σ.ival 2) v && !bitI (σ.ival 4) v)) ∧ 0 ≤ σ.ival 17 ∧ σ.ival 17 ≤ 8
theorem J6_agree {X : Fz} {k : Nat} (σ τ : Sig) (ag : Agree 18 σ τ) (h : J6 X k σ) : J6 X k τ := by
  unfold J6 at h ⊢
  refine ⟨JB_agree (by decide) σ τ ag h.1, ?_⟩
  rw [← (ag.val 2 (by decide)).1, ← (ag.val 3 (by decide)).1, ← (ag.val 4 (by decide)).1, ← (ag.val 5 (by decide)).1, ← (ag.val 6 (by decide)).1, ← (ag.val 7 (by decide)).1, ← (ag.val 8 (by decide)).1, ← (ag.val 9 (by decide)).1, ← (ag.val 10 (by decide)).1, ← (ag.val 11 (by decide)).1, ← (ag.val 12 (by decide)).1, ← (ag.val 13 (by decide)).1, ← (ag.val 14 (by decide)).1, ← (ag.val 16 (by decide)).1, ← (ag.val 17 (by decide)).1, ← (ag.val 15 (by decide)).2.1]
  exact h.2
theorem tab0 {l : List Int} : tabOf ckFs 0 l = (chooseF l).getD 0 0 := rfl
theorem tab1 {l : List Int} : tabOf ckFs 1 l = (chooseF l).getD 1 0 := rfl
set_option maxRecDepth 100000 in
theorem ikH_ob {W0 : World} {Z : Exit → Act → World → Prop} {X : Fz} {k : Nat} (τ : Sig) (e : Eqs τ 18 ikHG) (ht : τ.tab = (tabOf ckFs)) (hin : InsOk τ 18 ikK3) (hj : JE X k τ) : segsW τ (fun x s σ2 => (x = .normal ∧ s = ikS6 ∧ InsOk σ2 18 ikK6 ∧ J6 X k σ2 ∧ σ2.tab = (tabOf ckFs)) ∨ (x ≠ .normal ∧ EndZ (tabOf ckFs) 245 W0 Z x s σ2)) ikHW [] := by
  have e18 : τ.bval 18 = decide (0 ≤ τ.ival 0) := eqB (e.at 0 _ rfl rfl) rfl
  have e19 : τ.bval 19 = decide (τ.ival 0 < τ.ival 1) := eqB (e.at 1 _ rfl rfl) rfl
  have e20 : τ.ival 20 = ((τ.ival 15 : Int).tmod 9) := eqI (e.at 2 _ rfl rfl) rfl
  have e21 : τ.ival 21 = IntKind.i64.wrap (τ.ival 20) := eqI (e.at 3 _ rfl rfl) rfl
  have e22 : τ.ival 22 = IntKind.i64.wrap (τ.tab 0 [τ.ival 2, τ.ival 3, τ.ival 5, τ.ival 6, τ.ival 7, τ.ival 8, τ.ival 9, τ.ival 10, τ.ival 11, τ.ival 12, τ.ival 21, 0, τ.ival 4]) := eqI (e.at 4 _ rfl rfl) rfl
  have e23 : τ.bval 23 = (!(τ.tab 1 [τ.ival 2, τ.ival 3, τ.ival 5, τ.ival 6, τ.ival 7, τ.ival 8, τ.ival 9, τ.ival 10, τ.ival 11, τ.ival 12, τ.ival 21, 0, τ.ival 4] == 0)) := eqB (e.at 5 _ rfl rfl) rfl
  have e24 : τ.ival 24 = IntKind.u8.wrap (BitVec.ofInt IntKind.u8.bits (τ.ival 3) &&& BitVec.ofInt IntKind.u8.bits (τ.ival 2)).toNat := eqI (e.at 6 _ rfl rfl) rfl
  have e25 : τ.ival 25 = IntKind.u8.wrap (BitVec.ofInt IntKind.u8.bits (τ.ival 24) &&& ~~~BitVec.ofInt IntKind.u8.bits (τ.ival 4)).toNat := eqI (e.at 7 _ rfl rfl) rfl
  have n1 : τ.bval 18 = false → False := by intro h; rw [e18, decide_eq_false_iff_not] at h; exact h hj.1.1.2.2.1
  have n2 : τ.bval 19 = false → False := by intro h; rw [e19, decide_eq_false_iff_not, hj.1.1.2.1] at h; exact h hj.1.2.2.1
  rw [ht] at e22 e23
  rw [tab0, choose0] at e22
  rw [tab1, choose0] at e23
  have a15 := u8_range (hin 15 .u8 (by decide) rfl)
  have a2 := u8_range (hin 2 .u8 (by decide) rfl)
  have a3 := u8_range (hin 3 .u8 (by decide) rfl)
  have a4 := u8_range (hin 4 .u8 (by decide) rfl)
  have h21 : 0 ≤ τ.ival 21 ∧ τ.ival 21 ≤ 8 := by rw [e21, e20, Int.tmod_eq_emod_of_nonneg a15.1, w64 (by omega) (by omega)]; omega
  have h22 : τ.ival 22 = best8 (τ.ival 2) (τ.ival 3) (τ.ival 5) (τ.ival 6) (τ.ival 7) (τ.ival 8) (τ.ival 9) (τ.ival 10) (τ.ival 11) (τ.ival 12) (τ.ival 21) (τ.ival 4) 8 := by rw [e22]; exact wrap_best _ _ _ _ _ _ _ _ _ _ _ _
  refine ⟨⟨fun hF => .inl ⟨rfl, rfl, insOk_asg e hin 12 (by kernel_rfl), ⟨JB_of (σ := τ) rfl rfl rfl rfl rfl rfl rfl rfl rfl rfl rfl hj.1, h21, h22, ?_, ?_, by show (0 : Int) ≤ 0; decide, by show (0 : Int) ≤ 8; decide⟩, ht⟩, fun hF => n2 hF.1⟩, fun hF => n1 hF.1⟩
  · show τ.bval 23 = decide (0 ≤ τ.ival 22)
    rw [e23, h22]; exact is_best _
  · intro v hv
    show bitI (τ.ival 25) v = (bitI (τ.ival 3) v && bitI (τ.ival 2) v && !bitI (τ.ival 4) v)
    have w : BitVec.ofInt 8 (τ.ival 24) = BitVec.ofInt 8 (τ.ival 3) &&& BitVec.ofInt 8 (τ.ival 2) := by
      rw [e24]
      show BitVec.ofInt 8 (IntKind.u8.wrap ((BitVec.ofInt 8 (τ.ival 3) &&& BitVec.ofInt 8 (τ.ival 2) : BitVec 8).toNat : Int)) = _
      generalize (BitVec.ofInt 8 (τ.ival 3) &&& BitVec.ofInt 8 (τ.ival 2)) = x
      have hw : IntKind.u8.wrap (x.toNat : Int) = x.toNat := by
        have := x.isLt
        simp only [IntKind.wrap, IntKind.bits, IntKind.signed]
        simp; omega
      rw [hw]; simp
    rw [e25]
    refine (bitI_bv (x := BitVec.ofInt 8 (τ.ival 24) &&& ~~~ BitVec.ofInt 8 (τ.ival 4)) v).trans ?_
    rw [w, BitVec.getLsbD_and, BitVec.getLsbD_and, BitVec.getLsbD_not, bitI_in a3.1 a3.2, bitI_in a2.1 a2.2, bitI_in a4.1 a4.2]
    simp [hv]

def J7 (X : Fz) (k : Nat) (σ : Sig) : Prop := JB X k σ ∧ (-1 ≤ σ.ival 13 ∧ σ.ival 13 ≤ 7) ∧ σ.bval 14 = decide (0 ≤ σ.ival 13)
theorem J7_agree {X : Fz} {k : Nat} (σ τ : Sig) (ag : Agree 15 σ τ) (h : J7 X k σ) : J7 X k τ := by
  unfold J7 at h ⊢
  refine ⟨JB_agree (by decide) σ τ ag h.1, ?_⟩
  rw [← (ag.val 13 (by decide)).1, ← (ag.val 14 (by decide)).2.1]
  exact h.2
def ikIQ (W0 : World) (Z : Exit → Act → World → Prop) (X : Fz) (k : Nat) (τ : Sig) : SEx → Shape → Sig → Prop := fun x s σ2 => (x = .normal ∧ s = ikS6 ∧ InsOk σ2 18 ikK6 ∧ J6 X k σ2 ∧ σ2.tab = (tabOf ckFs) ∧ (fun σ : Sig => (8 - σ.ival 17).toNat) σ2 < (fun σ : Sig => (8 - σ.ival 17).toNat) τ) ∨ (x = .exit 5 ∧ s = ikS7 ∧ InsOk σ2 15 ikK7 ∧ J7 X k σ2 ∧ σ2.tab = (tabOf ckFs)) ∨ (x = .ret ∧ EndZ (tabOf ckFs) 245 W0 Z x s σ2)
theorem J6_main {X : Fz} {k : Nat} {τ : Sig} (h : J6 X k τ) (w : Nat) (hw : w < 8) :
    (¬ (bitI (τ.ival 16) w = true ∧ τ.ival 13 < prAt (τ.ival 5) (τ.ival 6) (τ.ival 7) (τ.ival 8) (τ.ival 9) (τ.ival 10) (τ.ival 11) (τ.ival 12) w) → ¬ (0 ≤ τ.ival 14 ∧ τ.ival 14 = w)) ∧
    ((bitI (τ.ival 16) w = true ∧ τ.ival 13 < prAt (τ.ival 5) (τ.ival 6) (τ.ival 7) (τ.ival 8) (τ.ival 9) (τ.ival 10) (τ.ival 11) (τ.ival 12) w) → ∃ u : Nat, u < 8 ∧ τ.ival 14 = u ∧ (prAt (τ.ival 5) (τ.ival 6) (τ.ival 7) (τ.ival 8) (τ.ival 9) (τ.ival 10) (τ.ival 11) (τ.ival 12) w < prAt (τ.ival 5) (τ.ival 6) (τ.ival 7) (τ.ival 8) (τ.ival 9) (τ.ival 10) (τ.ival 11) (τ.ival 12) u ∨ (prAt (τ.ival 5) (τ.ival 6) (τ.ival 7) (τ.ival 8) (τ.ival 9) (τ.ival 10) (τ.ival 11) (τ.ival 12) w = prAt (τ.ival 5) (τ.ival 6) (τ.ival 7) (τ.ival 8) (τ.ival 9) (τ.ival 10) (τ.ival 11) (τ.ival 12) u ∧ u ≤ w))) := by
  obtain ⟨_, ⟨l0, l8⟩, hv, _, hm, _⟩ := h
  have hc := best_cases (τ.ival 2) (τ.ival 3) (τ.ival 5) (τ.ival 6) (τ.ival 7) (τ.ival 8) (τ.ival 9) (τ.ival 10) (τ.ival 11) (τ.ival 12) (τ.ival 13) (τ.ival 4)
  rw [← hv] at hc
  have iff : ∀ v : Nat, v < 8 → (mayI (τ.ival 2) (τ.ival 3) (τ.ival 4) (τ.ival 13) (prAt (τ.ival 5) (τ.ival 6) (τ.ival 7) (τ.ival 8) (τ.ival 9) (τ.ival 10) (τ.ival 11) (τ.ival 12) v) v = true ↔ (bitI (τ.ival 16) v = true ∧ τ.ival 13 < prAt (τ.ival 5) (τ.ival 6) (τ.ival 7) (τ.ival 8) (τ.ival 9) (τ.ival 10) (τ.ival 11) (τ.ival 12) v)) := fun v hv => by rw [mayI_iff l0, hm v hv]
  rcases hc with ⟨e, h⟩ | ⟨u, hu, e, h1, h2⟩
  · refine ⟨fun _ => by omega, fun hh => ?_⟩
    have := h w hw
    replace this : mayI (τ.ival 2) (τ.ival 3) (τ.ival 4) (τ.ival 13) (prAt (τ.ival 5) (τ.ival 6) (τ.ival 7) (τ.ival 8) (τ.ival 9) (τ.ival 10) (τ.ival 11) (τ.ival 12) w) w = false := this
    rw [(iff w hw).2 hh] at this
    cases this
  · refine ⟨fun hn hh => ?_, fun hh => ⟨u, hu, e, h2 w hw ((iff w hw).2 hh)⟩⟩
    obtain rfl : u = w := by omega
    exact hn ((iff u hu).1 h1)
theorem leafI {W0 : World} {Z : Exit → Act → World → Prop} {X : Fz} {k : Nat} {τ : Sig} (e : Eqs τ 18 ikIG) (ht : τ.tab = (tabOf ckFs)) (hin : InsOk τ 18 ikK6) (hj : J6 X k τ) {l : Asg} (hi : InsOk (asgS τ l) 18 ikK6) (hx : (asgS τ l).ext = τ.ext) (h0 : (asgS τ l).ival 0 = τ.ival 0) (h1 : (asgS τ l).ival 1 = τ.ival 1) (h2 : (asgS τ l).ival 2 = τ.ival 2) (h3 : (asgS τ l).ival 3 = τ.ival 3) (h4 : (asgS τ l).ival 4 = τ.ival 4) (h5 : (asgS τ l).ival 5 = τ.ival 5) (h6 : (asgS τ l).ival 6 = τ.ival 6) (h7 : (asgS τ l).ival 7 = τ.ival 7) (h8' : (asgS τ l).ival 8 = τ.ival 8) (h9 : (asgS τ l).ival 9 = τ.ival 9) (h10 : (asgS τ l).ival 10 = τ.ival 10) (h11 : (asgS τ l).ival 11 = τ.ival 11) (h12 : (asgS τ l).ival 12 = τ.ival 12) (h13 : (asgS τ l).ival 13 = τ.ival 13) (h14 : (asgS τ l).ival 14 = τ.ival 14) (h16 : (asgS τ l).ival 16 = τ.ival 16) (hb : (asgS τ l).bval 15 = τ.bval 15) (h : (asgS τ l).ival 17 = τ.ival 17 + 1) (h8 : τ.ival 17 < 8) : ikIQ W0 Z X k τ .normal ikS6 (asgS τ l) := by
  refine Or.inl ⟨rfl, rfl, hi, ?_, ht, ?_⟩
  · obtain ⟨g1, g2, g3, g4, g5, g6, g7⟩ := hj
    refine ⟨JB_of hx h0 h1 h5 h6 h7 h8' h9 h10 h11 h12 g1, ?_⟩
    rw [h2, h3, h4, h5, h6, h7, h8', h9, h10, h11, h12, h13, h14, h16, h, hb]
    exact ⟨g2, g3, g4, g5, by omega, by omega⟩
  · show (8 - (asgS τ l).ival 17).toNat < (8 - τ.ival 17).toNat
    rw [h]; omega
def ikI_s0 : Sv := .node 20 (.node 15 (.node 22 (.dead) (.leaf .normal ikS6 ikFf (ikLi (.int .i64 1)) ikA5)) (.leaf .normal ikS6 ikFf (ikLi (.int .i64 1)) ikA5)) (.node 21 (.node 15 (.node 22 (.dead) (.leaf .normal ikS6 ikFf (ikLi (.int .i64 1)) ikA5)) (.leaf .normal ikS6 ikFf (ikLi (.int .i64 1)) ikA5)) (.node 23 (.dead) (.pick 14 0 (.leaf .normal ikS6 ikFf (ikLi (.int .i64 1)) ikA5) (.pick 14 1 (.node 24 (.dead) (.node 25 (.dead) (.leaf .normal ikS6 ikFf (ikLi (.int .i64 1)) ikA5))) (.pick 14 2 (.node 26 (.dead) (.node 27 (.dead) (.leaf .normal ikS6 ikFf (ikLi (.int .i64 1)) ikA5))) (.pick 14 3 (.node 28 (.dead) (.node 29 (.dead) (.leaf .normal ikS6 ikFf (ikLi (.int .i64 1)) ikA5))) (.pick 14 4 (.node 30 (.dead) (.node 31 (.dead) (.leaf .normal ikS6 ikFf (ikLi (.int .i64 1)) ikA5))) (.pick 14 5 (.node 32 (.dead) (.node 33 (.dead) (.leaf .normal ikS6 ikFf (ikLi (.int .i64 1)) ikA5))) (.pick 14 6 (.node 34 (.dead) (.node 35 (.dead) (.leaf .normal ikS6 ikFf (ikLi (.int .i64 1)) ikA5))) (.pick 14 7 (.node 36 (.dead) (.node 37 (.dead) (.leaf .normal ikS6 ikFf (ikLi (.int .i64 1)) ikA5))) (.dead)))))))))))
set_option maxRecDepth 100000 in
theorem ikI_0 {W0 : World} {Z : Exit → Act → World → Prop} {X : Fz} {k : Nat} (τ : Sig) (e : Eqs τ 18 ikIG) (ht : τ.tab = (tabOf ckFs)) (hin : InsOk τ 18 ikK6) (hj : J6 X k τ) : segs τ (ikIQ W0 Z X k τ) ikI_s0 [.isn 17 0] := by
  have e18 : τ.ival 18 = ((τ.ival 16 : Int).fdiv (2 ^ (min (0 : Int).toNat IntKind.u8.bits))) := eqI (e.at 0 _ rfl rfl) rfl
  have e19 : τ.ival 19 = ((τ.ival 18 : Int).tmod 2) := eqI (e.at 1 _ rfl rfl) rfl
  have e20 : τ.bval 20 = (τ.ival 19 == 0) := eqB (e.at 2 _ rfl rfl) rfl
  have e21 : τ.bval 21 = decide (τ.ival 5 ≤ τ.ival 13) := eqB (e.at 3 _ rfl rfl) rfl
  have e22 : τ.bval 22 = (τ.ival 14 == 0) := eqB (e.at 4 _ rfl rfl) rfl
  have e23 : τ.bval 23 = (!τ.bval 15) := eqB (e.at 5 _ rfl rfl) rfl
  have e24 : τ.bval 24 = decide (τ.ival 5 > τ.ival 6) := eqB (e.at 6 _ rfl rfl) rfl
  have e25 : τ.bval 25 = (τ.ival 5 == τ.ival 6) := eqB (e.at 7 _ rfl rfl) rfl
  have e26 : τ.bval 26 = decide (τ.ival 5 > τ.ival 7) := eqB (e.at 8 _ rfl rfl) rfl
  have e27 : τ.bval 27 = (τ.ival 5 == τ.ival 7) := eqB (e.at 9 _ rfl rfl) rfl
  have e28 : τ.bval 28 = decide (τ.ival 5 > τ.ival 8) := eqB (e.at 10 _ rfl rfl) rfl
  have e29 : τ.bval 29 = (τ.ival 5 == τ.ival 8) := eqB (e.at 11 _ rfl rfl) rfl
  have e30 : τ.bval 30 = decide (τ.ival 5 > τ.ival 9) := eqB (e.at 12 _ rfl rfl) rfl
  have e31 : τ.bval 31 = (τ.ival 5 == τ.ival 9) := eqB (e.at 13 _ rfl rfl) rfl
  have e32 : τ.bval 32 = decide (τ.ival 5 > τ.ival 10) := eqB (e.at 14 _ rfl rfl) rfl
  have e33 : τ.bval 33 = (τ.ival 5 == τ.ival 10) := eqB (e.at 15 _ rfl rfl) rfl
  have e34 : τ.bval 34 = decide (τ.ival 5 > τ.ival 11) := eqB (e.at 16 _ rfl rfl) rfl
  have e35 : τ.bval 35 = (τ.ival 5 == τ.ival 11) := eqB (e.at 17 _ rfl rfl) rfl
  have e36 : τ.bval 36 = decide (τ.ival 5 > τ.ival 12) := eqB (e.at 18 _ rfl rfl) rfl
  have e37 : τ.bval 37 = (τ.ival 5 == τ.ival 12) := eqB (e.at 19 _ rfl rfl) rfl
  obtain ⟨m1, m2⟩ := J6_main hj 0 (by decide)
  have h15 : τ.bval 15 = decide (0 ≤ τ.ival 14) := hj.2.2.2.1
  have a16 := u8_range (hin 16 .u8 (by decide) rfl)
  have eb : τ.bval 20 = !bitI (τ.ival 16) 0 := by rw [e20, e19, e18]; exact bit0 rfl a16.1
  clear e20
  have pw : prAt (τ.ival 5) (τ.ival 6) (τ.ival 7) (τ.ival 8) (τ.ival 9) (τ.ival 10) (τ.ival 11) (τ.ival 12) ((0 : Nat) : Int) = τ.ival 5 := rfl
  rw [pw] at m1 m2
  have lf0 : τ.ival 17 = 0 → ikIQ W0 Z X k τ .normal ikS6 (asgS τ ((ikLi (.int .i64 1)) ++ ikA5)) := fun h17 =>
    leafI e ht hin hj (insOk_asg e hin 12 (by kernel_rfl)) rfl rfl rfl rfl rfl rfl rfl rfl rfl rfl rfl rfl rfl rfl rfl rfl rfl rfl (by rw [h17]; rfl) (by omega)
  exact ⟨⟨⟨(fun hF => m1 (fun hh => by have h1 := hF.2.2.1; replace h1 : τ.bval 20 = true := h1; rw [eb, hh.1] at h1; cases h1) ⟨by have h2 := hF.2.1; replace h2 : τ.bval 15 = true := h2; rw [h15, decide_eq_true_eq] at h2; exact h2, by have h3 := hF.1; replace h3 : τ.bval 22 = true := h3; rw [e22, beq_iff_eq] at h3; exact h3⟩), (fun hF => lf0 (by simp only [Holds, Fact.holds] at hF; simp only [hF]))⟩, (fun hF => lf0 (by simp only [Holds, Fact.holds] at hF; simp only [hF]))⟩, ⟨⟨⟨(fun hF => m1 (fun hh => by have h1 := hF.2.2.1; replace h1 : τ.bval 21 = true := h1; rw [e21, decide_eq_true_eq] at h1; have := hh.2; omega) ⟨by have h2 := hF.2.1; replace h2 : τ.bval 15 = true := h2; rw [h15, decide_eq_true_eq] at h2; exact h2, by have h3 := hF.1; replace h3 : τ.bval 22 = true := h3; rw [e22, beq_iff_eq] at h3; exact h3⟩), (fun hF => lf0 (by simp only [Holds, Fact.holds] at hF; simp only [hF]))⟩, (fun hF => lf0 (by simp only [Holds, Fact.holds] at hF; simp only [hF]))⟩, ⟨(fun hF => by have h1 : τ.bval 20 = false := hF.2.2.1; have h2 : τ.bval 21 = false := hF.2.1; rw [eb] at h1; rw [e21, decide_eq_false_iff_not] at h2; obtain ⟨u, hu, hv, hc⟩ := m2 ⟨by simpa using h1, by omega⟩; have h3 : τ.bval 23 = true := hF.1; rw [e23, h15, Bool.not_eq_true', decide_eq_false_iff_not] at h3; omega), ⟨(fun hF => lf0 (by simp only [Holds, Fact.holds] at hF; simp only [hF])), ⟨⟨(fun hF => by have h1 : τ.bval 20 = false := hF.2.2.2.2.2.1; have h2 : τ.bval 21 = false := hF.2.2.2.2.1; rw [eb] at h1; rw [e21, decide_eq_false_iff_not] at h2; obtain ⟨u, hu, hv, hc⟩ := m2 ⟨by simpa using h1, by omega⟩; have h4 : τ.ival 14 = 1 := hF.2.1; have h3 : τ.bval 24 = true := hF.1; rw [e24, decide_eq_true_eq] at h3; obtain rfl : u = 1 := (by omega); replace hc : τ.ival 5 < τ.ival 6 ∨ (τ.ival 5 = τ.ival 6 ∧ 1 ≤ 0) := hc; omega), ⟨(fun hF => by have h1 : τ.bval 20 = false := hF.2.2.2.2.2.2.1; have h2 : τ.bval 21 = false := hF.2.2.2.2.2.1; rw [eb] at h1; rw [e21, decide_eq_false_iff_not] at h2; obtain ⟨u, hu, hv, hc⟩ := m2 ⟨by simpa using h1, by omega⟩; have h4 : τ.ival 14 = 1 := hF.2.2.1; have h3 : τ.bval 25 = true := hF.1; rw [e25, beq_iff_eq] at h3; obtain rfl : u = 1 := (by omega); replace hc : τ.ival 5 < τ.ival 6 ∨ (τ.ival 5 = τ.ival 6 ∧ 1 ≤ 0) := hc; omega), (fun hF => lf0 (by simp only [Holds, Fact.holds] at hF; simp only [hF]))⟩⟩, ⟨⟨(fun hF => by have h1 : τ.bval 20 = false := hF.2.2.2.2.2.2.1; have h2 : τ.bval 21 = false := hF.2.2.2.2.2.1; rw [eb] at h1; rw [e21, decide_eq_false_iff_not] at h2; obtain ⟨u, hu, hv, hc⟩ := m2 ⟨by simpa using h1, by omega⟩; have h4 : τ.ival 14 = 2 := hF.2.1; have h3 : τ.bval 26 = true := hF.1; rw [e26, decide_eq_true_eq] at h3; obtain rfl : u = 2 := (by omega); replace hc : τ.ival 5 < τ.ival 7 ∨ (τ.ival 5 = τ.ival 7 ∧ 2 ≤ 0) := hc; omega), ⟨(fun hF => by have h1 : τ.bval 20 = false := hF.2.2.2.2.2.2.2.1; have h2 : τ.bval 21 = false := hF.2.2.2.2.2.2.1; rw [eb] at h1; rw [e21, decide_eq_false_iff_not] at h2; obtain ⟨u, hu, hv, hc⟩ := m2 ⟨by simpa using h1, by omega⟩; have h4 : τ.ival 14 = 2 := hF.2.2.1; have h3 : τ.bval 27 = true := hF.1; rw [e27, beq_iff_eq] at h3; obtain rfl : u = 2 := (by omega); replace hc : τ.ival 5 < τ.ival 7 ∨ (τ.ival 5 = τ.ival 7 ∧ 2 ≤ 0) := hc; omega), (fun hF => lf0 (by simp only [Holds, Fact.holds] at hF; simp only [hF]))⟩⟩, ⟨⟨(fun hF => by have h1 : τ.bval 20 = false := hF.2.2.2.2.2.2.2.1; have h2 : τ.bval 21 = false := hF.2.2.2.2.2.2.1; rw [eb] at h1; rw [e21, decide_eq_false_iff_not] at h2; obtain ⟨u, hu, hv, hc⟩ := m2 ⟨by simpa using h1, by omega⟩; have h4 : τ.ival 14 = 3 := hF.2.1; have h3 : τ.bval 28 = true := hF.1; rw [e28, decide_eq_true_eq] at h3; obtain rfl : u = 3 := (by omega); replace hc : τ.ival 5 < τ.ival 8 ∨ (τ.ival 5 = τ.ival 8 ∧ 3 ≤ 0) := hc; omega), ⟨(fun hF => by have h1 : τ.bval 20 = false := hF.2.2.2.2.2.2.2.2.1; have h2 : τ.bval 21 = false := hF.2.2.2.2.2.2.2.1; rw [eb] at h1; rw [e21, decide_eq_false_iff_not] at h2; obtain ⟨u, hu, hv, hc⟩ := m2 ⟨by simpa using h1, by omega⟩; have h4 : τ.ival 14 = 3 := hF.2.2.1; have h3 : τ.bval 29 = true := hF.1; rw [e29, beq_iff_eq] at h3; obtain rfl : u = 3 := (by omega); replace hc : τ.ival 5 < τ.ival 8 ∨ (τ.ival 5 = τ.ival 8 ∧ 3 ≤ 0) := hc; omega), (fun hF => lf0 (by simp only [Holds, Fact.holds] at hF; simp only [hF]))⟩⟩, ⟨⟨(fun hF => by have h1 : τ.bval 20 = false := hF.2.2.2.2.2.2.2.2.1; have h2 : τ.bval 21 = false := hF.2.2.2.2.2.2.2.1; rw [eb] at h1; rw [e21, decide_eq_false_iff_not] at h2; obtain ⟨u, hu, hv, hc⟩ := m2 ⟨by simpa using h1, by omega⟩; have h4 : τ.ival 14 = 4 := hF.2.1; have h3 : τ.bval 30 = true := hF.1; rw [e30, decide_eq_true_eq] at h3; obtain rfl : u = 4 := (by omega); replace hc : τ.ival 5 < τ.ival 9 ∨ (τ.ival 5 = τ.ival 9 ∧ 4 ≤ 0) := hc; omega), ⟨(fun hF => by have h1 : τ.bval 20 = false := hF.2.2.2.2.2.2.2.2.2.1; have h2 : τ.bval 21 = false := hF.2.2.2.2.2.2.2.2.1; rw [eb] at h1; rw [e21, decide_eq_false_iff_not] at h2; obtain ⟨u, hu, hv, hc⟩ := m2 ⟨by simpa using h1, by omega⟩; have h4 : τ.ival 14 = 4 := hF.2.2.1; have h3 : τ.bval 31 = true := hF.1; rw [e31, beq_iff_eq] at h3; obtain rfl : u = 4 := (by omega); replace hc : τ.ival 5 < τ.ival 9 ∨ (τ.ival 5 = τ.ival 9 ∧ 4 ≤ 0) := hc; omega), (fun hF => lf0 (by simp only [Holds, Fact.holds] at hF; simp only [hF]))⟩⟩, ⟨⟨(fun hF => by have h1 : τ.bval 20 = false := hF.2.2.2.2.2.2.2.2.2.1; have h2 : τ.bval 21 = false := hF.2.2.2.2.2.2.2.2.1; rw [eb] at h1; rw [e21, decide_eq_false_iff_not] at h2; obtain ⟨u, hu, hv, hc⟩ := m2 ⟨by simpa using h1, by omega⟩; have h4 : τ.ival 14 = 5 := hF.2.1; have h3 : τ.bval 32 = true := hF.1; rw [e32, decide_eq_true_eq] at h3; obtain rfl : u = 5 := (by omega); replace hc : τ.ival 5 < τ.ival 10 ∨ (τ.ival 5 = τ.ival 10 ∧ 5 ≤ 0) := hc; omega), ⟨(fun hF => by have h1 : τ.bval 20 = false := hF.2.2.2.2.2.2.2.2.2.2.1; have h2 : τ.bval 21 = false := hF.2.2.2.2.2.2.2.2.2.1; rw [eb] at h1; rw [e21, decide_eq_false_iff_not] at h2; obtain ⟨u, hu, hv, hc⟩ := m2 ⟨by simpa using h1, by omega⟩; have h4 : τ.ival 14 = 5 := hF.2.2.1; have h3 : τ.bval 33 = true := hF.1; rw [e33, beq_iff_eq] at h3; obtain rfl : u = 5 := (by omega); replace hc : τ.ival 5 < τ.ival 10 ∨ (τ.ival 5 = τ.ival 10 ∧ 5 ≤ 0) := hc; omega), (fun hF => lf0 (by simp only [Holds, Fact.holds] at hF; simp only [hF]))⟩⟩, ⟨⟨(fun hF => by have h1 : τ.bval 20 = false := hF.2.2.2.2.2.2.2.2.2.2.1; have h2 : τ.bval 21 = false := hF.2.2.2.2.2.2.2.2.2.1; rw [eb] at h1; rw [e21, decide_eq_false_iff_not] at h2; obtain ⟨u, hu, hv, hc⟩ := m2 ⟨by simpa using h1, by omega⟩; have h4 : τ.ival 14 = 6 := hF.2.1; have h3 : τ.bval 34 = true := hF.1; rw [e34, decide_eq_true_eq] at h3; obtain rfl : u = 6 := (by omega); replace hc : τ.ival 5 < τ.ival 11 ∨ (τ.ival 5 = τ.ival 11 ∧ 6 ≤ 0) := hc; omega), ⟨(fun hF => by have h1 : τ.bval 20 = false := hF.2.2.2.2.2.2.2.2.2.2.2.1; have h2 : τ.bval 21 = false := hF.2.2.2.2.2.2.2.2.2.2.1; rw [eb] at h1; rw [e21, decide_eq_false_iff_not] at h2; obtain ⟨u, hu, hv, hc⟩ := m2 ⟨by simpa using h1, by omega⟩; have h4 : τ.ival 14 = 6 := hF.2.2.1; have h3 : τ.bval 35 = true := hF.1; rw [e35, beq_iff_eq] at h3; obtain rfl : u = 6 := (by omega); replace hc : τ.ival 5 < τ.ival 11 ∨ (τ.ival 5 = τ.ival 11 ∧ 6 ≤ 0) := hc; omega), (fun hF => lf0 (by simp only [Holds, Fact.holds] at hF; simp only [hF]))⟩⟩, ⟨⟨(fun hF => by have h1 : τ.bval 20 = false := hF.2.2.2.2.2.2.2.2.2.2.2.1; have h2 : τ.bval 21 = false := hF.2.2.2.2.2.2.2.2.2.2.1; rw [eb] at h1; rw [e21, decide_eq_false_iff_not] at h2; obtain ⟨u, hu, hv, hc⟩ := m2 ⟨by simpa using h1, by omega⟩; have h4 : τ.ival 14 = 7 := hF.2.1; have h3 : τ.bval 36 = true := hF.1; rw [e36, decide_eq_true_eq] at h3; obtain rfl : u = 7 := (by omega); replace hc : τ.ival 5 < τ.ival 12 ∨ (τ.ival 5 = τ.ival 12 ∧ 7 ≤ 0) := hc; omega), ⟨(fun hF => by have h1 : τ.bval 20 = false := hF.2.2.2.2.2.2.2.2.2.2.2.2.1; have h2 : τ.bval 21 = false := hF.2.2.2.2.2.2.2.2.2.2.2.1; rw [eb] at h1; rw [e21, decide_eq_false_iff_not] at h2; obtain ⟨u, hu, hv, hc⟩ := m2 ⟨by simpa using h1, by omega⟩; have h4 : τ.ival 14 = 7 := hF.2.2.1; have h3 : τ.bval 37 = true := hF.1; rw [e37, beq_iff_eq] at h3; obtain rfl : u = 7 := (by omega); replace hc : τ.ival 5 < τ.ival 12 ∨ (τ.ival 5 = τ.ival 12 ∧ 7 ≤ 0) := hc; omega), (fun hF => lf0 (by simp only [Holds, Fact.holds] at hF; simp only [hF]))⟩⟩, (fun hF => by have h1 : τ.bval 20 = false := hF.2.2.2.2.2.2.2.2.2.2.1; have h2 : τ.bval 21 = false := hF.2.2.2.2.2.2.2.2.2.1; rw [eb] at h1; rw [e21, decide_eq_false_iff_not] at h2; obtain ⟨u, hu, hv, hc⟩ := m2 ⟨by simpa using h1, by omega⟩; simp only [Holds, Fact.holds] at hF; omega)⟩⟩⟩⟩⟩⟩⟩⟩⟩⟩⟩

def ikI_s1 : Sv := .node 40 (.node 15 (.node 42 (.dead) (.leaf .normal ikS6 ikFf (ikLi (.int .i64 2)) ikA5)) (.leaf .normal ikS6 ikFf (ikLi (.int .i64 2)) ikA5)) (.node 41 (.node 15 (.node 42 (.dead) (.leaf .normal ikS6 ikFf (ikLi (.int .i64 2)) ikA5)) (.leaf .normal ikS6 ikFf (ikLi (.int .i64 2)) ikA5)) (.node 23 (.dead) (.pick 14 0 (.node 43 (.dead) (.leaf .normal ikS6 ikFf (ikLi (.int .i64 2)) ikA5)) (.pick 14 1 (.leaf .normal ikS6 ikFf (ikLi (.int .i64 2)) ikA5) (.pick 14 2 (.node 45 (.dead) (.node 46 (.dead) (.leaf .normal ikS6 ikFf (ikLi (.int .i64 2)) ikA5))) (.pick 14 3 (.node 47 (.dead) (.node 48 (.dead) (.leaf .normal ikS6 ikFf (ikLi (.int .i64 2)) ikA5))) (.pick 14 4 (.node 49 (.dead) (.node 50 (.dead) (.leaf .normal ikS6 ikFf (ikLi (.int .i64 2)) ikA5))) (.pick 14 5 (.node 51 (.dead) (.node 52 (.dead) (.leaf .normal ikS6 ikFf (ikLi (.int .i64 2)) ikA5))) (.pick 14 6 (.node 53 (.dead) (.node 54 (.dead) (.leaf .normal ikS6 ikFf (ikLi (.int .i64 2)) ikA5))) (.pick 14 7 (.node 55 (.dead) (.node 56 (.dead) (.leaf .normal ikS6 ikFf (ikLi (.int .i64 2)) ikA5))) (.dead)))))))))))
set_option maxRecDepth 100000 in
theorem ikI_1 {W0 : World} {Z : Exit → Act → World → Prop} {X : Fz} {k : Nat} (τ : Sig) (e : Eqs τ 18 ikIG) (ht : τ.tab = (tabOf ckFs)) (hin : InsOk τ 18 ikK6) (hj : J6 X k τ) : segs τ (ikIQ W0 Z X k τ) ikI_s1 [.isn 17 1, .non 17 0] := by
  have e23 : τ.bval 23 = (!τ.bval 15) := eqB (e.at 5 _ rfl rfl) rfl
  have e38 : τ.ival 38 = ((τ.ival 16 : Int).fdiv (2 ^ (min (1 : Int).toNat IntKind.u8.bits))) := eqI (e.at 20 _ rfl rfl) rfl
  have e39 : τ.ival 39 = ((τ.ival 38 : Int).tmod 2) := eqI (e.at 21 _ rfl rfl) rfl
  have e40 : τ.bval 40 = (τ.ival 39 == 0) := eqB (e.at 22 _ rfl rfl) rfl
  have e41 : τ.bval 41 = decide (τ.ival 6 ≤ τ.ival 13) := eqB (e.at 23 _ rfl rfl) rfl
  have e42 : τ.bval 42 = (τ.ival 14 == 1) := eqB (e.at 24 _ rfl rfl) rfl
  have e43 : τ.bval 43 = decide (τ.ival 6 > τ.ival 5) := eqB (e.at 25 _ rfl rfl) rfl
  have e45 : τ.bval 45 = decide (τ.ival 6 > τ.ival 7) := eqB (e.at 27 _ rfl rfl) rfl
  have e46 : τ.bval 46 = (τ.ival 6 == τ.ival 7) := eqB (e.at 28 _ rfl rfl) rfl
  have e47 : τ.bval 47 = decide (τ.ival 6 > τ.ival 8) := eqB (e.at 29 _ rfl rfl) rfl
  have e48 : τ.bval 48 = (τ.ival 6 == τ.ival 8) := eqB (e.at 30 _ rfl rfl) rfl
  have e49 : τ.bval 49 = decide (τ.ival 6 > τ.ival 9) := eqB (e.at 31 _ rfl rfl) rfl
  have e50 : τ.bval 50 = (τ.ival 6 == τ.ival 9) := eqB (e.at 32 _ rfl rfl) rfl
  have e51 : τ.bval 51 = decide (τ.ival 6 > τ.ival 10) := eqB (e.at 33 _ rfl rfl) rfl
  have e52 : τ.bval 52 = (τ.ival 6 == τ.ival 10) := eqB (e.at 34 _ rfl rfl) rfl
  have e53 : τ.bval 53 = decide (τ.ival 6 > τ.ival 11) := eqB (e.at 35 _ rfl rfl) rfl
  have e54 : τ.bval 54 = (τ.ival 6 == τ.ival 11) := eqB (e.at 36 _ rfl rfl) rfl
  have e55 : τ.bval 55 = decide (τ.ival 6 > τ.ival 12) := eqB (e.at 37 _ rfl rfl) rfl
  have e56 : τ.bval 56 = (τ.ival 6 == τ.ival 12) := eqB (e.at 38 _ rfl rfl) rfl
  obtain ⟨m1, m2⟩ := J6_main hj 1 (by decide)
  have h15 : τ.bval 15 = decide (0 ≤ τ.ival 14) := hj.2.2.2.1
  have a16 := u8_range (hin 16 .u8 (by decide) rfl)
  have eb : τ.bval 40 = !bitI (τ.ival 16) 1 := by rw [e40, e39, e38]; exact bit0 rfl a16.1
  clear e40
  have pw : prAt (τ.ival 5) (τ.ival 6) (τ.ival 7) (τ.ival 8) (τ.ival 9) (τ.ival 10) (τ.ival 11) (τ.ival 12) ((1 : Nat) : Int) = τ.ival 6 := rfl
  rw [pw] at m1 m2
  have lf0 : τ.ival 17 = 1 → ikIQ W0 Z X k τ .normal ikS6 (asgS τ ((ikLi (.int .i64 2)) ++ ikA5)) := fun h17 =>
    leafI e ht hin hj (insOk_asg e hin 12 (by kernel_rfl)) rfl rfl rfl rfl rfl rfl rfl rfl rfl rfl rfl rfl rfl rfl rfl rfl rfl rfl (by rw [h17]; rfl) (by omega)
  exact ⟨⟨⟨(fun hF => m1 (fun hh => by have h1 := hF.2.2.1; replace h1 : τ.bval 40 = true := h1; rw [eb, hh.1] at h1; cases h1) ⟨by have h2 := hF.2.1; replace h2 : τ.bval 15 = true := h2; rw [h15, decide_eq_true_eq] at h2; exact h2, by have h3 := hF.1; replace h3 : τ.bval 42 = true := h3; rw [e42, beq_iff_eq] at h3; exact h3⟩), (fun hF => lf0 (by simp only [Holds, Fact.holds] at hF; simp only [hF]))⟩, (fun hF => lf0 (by simp only [Holds, Fact.holds] at hF; simp only [hF]))⟩, ⟨⟨⟨(fun hF => m1 (fun hh => by have h1 := hF.2.2.1; replace h1 : τ.bval 41 = true := h1; rw [e41, decide_eq_true_eq] at h1; have := hh.2; omega) ⟨by have h2 := hF.2.1; replace h2 : τ.bval 15 = true := h2; rw [h15, decide_eq_true_eq] at h2; exact h2, by have h3 := hF.1; replace h3 : τ.bval 42 = true := h3; rw [e42, beq_iff_eq] at h3; exact h3⟩), (fun hF => lf0 (by simp only [Holds, Fact.holds] at hF; simp only [hF]))⟩, (fun hF => lf0 (by simp only [Holds, Fact.holds] at hF; simp only [hF]))⟩, ⟨(fun hF => by have h1 : τ.bval 40 = false := hF.2.2.1; have h2 : τ.bval 41 = false := hF.2.1; rw [eb] at h1; rw [e41, decide_eq_false_iff_not] at h2; obtain ⟨u, hu, hv, hc⟩ := m2 ⟨by simpa using h1, by omega⟩; have h3 : τ.bval 23 = true := hF.1; rw [e23, h15, Bool.not_eq_true', decide_eq_false_iff_not] at h3; omega), ⟨⟨(fun hF => by have h1 : τ.bval 40 = false := hF.2.2.2.2.1; have h2 : τ.bval 41 = false := hF.2.2.2.1; rw [eb] at h1; rw [e41, decide_eq_false_iff_not] at h2; obtain ⟨u, hu, hv, hc⟩ := m2 ⟨by simpa using h1, by omega⟩; have h4 : τ.ival 14 = 0 := hF.2.1; have h3 : τ.bval 43 = true := hF.1; rw [e43, decide_eq_true_eq] at h3; obtain rfl : u = 0 := (by omega); replace hc : τ.ival 6 < τ.ival 5 ∨ (τ.ival 6 = τ.ival 5 ∧ 0 ≤ 1) := hc; omega), (fun hF => lf0 (by simp only [Holds, Fact.holds] at hF; simp only [hF]))⟩, ⟨(fun hF => lf0 (by simp only [Holds, Fact.holds] at hF; simp only [hF])), ⟨⟨(fun hF => by have h1 : τ.bval 40 = false := hF.2.2.2.2.2.2.1; have h2 : τ.bval 41 = false := hF.2.2.2.2.2.1; rw [eb] at h1; rw [e41, decide_eq_false_iff_not] at h2; obtain ⟨u, hu, hv, hc⟩ := m2 ⟨by simpa using h1, by omega⟩; have h4 : τ.ival 14 = 2 := hF.2.1; have h3 : τ.bval 45 = true := hF.1; rw [e45, decide_eq_true_eq] at h3; obtain rfl : u = 2 := (by omega); replace hc : τ.ival 6 < τ.ival 7 ∨ (τ.ival 6 = τ.ival 7 ∧ 2 ≤ 1) := hc; omega), ⟨(fun hF => by have h1 : τ.bval 40 = false := hF.2.2.2.2.2.2.2.1; have h2 : τ.bval 41 = false := hF.2.2.2.2.2.2.1; rw [eb] at h1; rw [e41, decide_eq_false_iff_not] at h2; obtain ⟨u, hu, hv, hc⟩ := m2 ⟨by simpa using h1, by omega⟩; have h4 : τ.ival 14 = 2 := hF.2.2.1; have h3 : τ.bval 46 = true := hF.1; rw [e46, beq_iff_eq] at h3; obtain rfl : u = 2 := (by omega); replace hc : τ.ival 6 < τ.ival 7 ∨ (τ.ival 6 = τ.ival 7 ∧ 2 ≤ 1) := hc; omega), (fun hF => lf0 (by simp only [Holds, Fact.holds] at hF; simp only [hF]))⟩⟩, ⟨⟨(fun hF => by have h1 : τ.bval 40 = false := hF.2.2.2.2.2.2.2.1; have h2 : τ.bval 41 = false := hF.2.2.2.2.2.2.1; rw [eb] at h1; rw [e41, decide_eq_false_iff_not] at h2; obtain ⟨u, hu, hv, hc⟩ := m2 ⟨by simpa using h1, by omega⟩; have h4 : τ.ival 14 = 3 := hF.2.1; have h3 : τ.bval 47 = true := hF.1; rw [e47, decide_eq_true_eq] at h3; obtain rfl : u = 3 := (by omega); replace hc : τ.ival 6 < τ.ival 8 ∨ (τ.ival 6 = τ.ival 8 ∧ 3 ≤ 1) := hc; omega), ⟨(fun hF => by have h1 : τ.bval 40 = false := hF.2.2.2.2.2.2.2.2.1; have h2 : τ.bval 41 = false := hF.2.2.2.2.2.2.2.1; rw [eb] at h1; rw [e41, decide_eq_false_iff_not] at h2; obtain ⟨u, hu, hv, hc⟩ := m2 ⟨by simpa using h1, by omega⟩; have h4 : τ.ival 14 = 3 := hF.2.2.1; have h3 : τ.bval 48 = true := hF.1; rw [e48, beq_iff_eq] at h3; obtain rfl : u = 3 := (by omega); replace hc : τ.ival 6 < τ.ival 8 ∨ (τ.ival 6 = τ.ival 8 ∧ 3 ≤ 1) := hc; omega), (fun hF => lf0 (by simp only [Holds, Fact.holds] at hF; simp only [hF]))⟩⟩, ⟨⟨(fun hF => by have h1 : τ.bval 40 = false := hF.2.2.2.2.2.2.2.2.1; have h2 : τ.bval 41 = false := hF.2.2.2.2.2.2.2.1; rw [eb] at h1; rw [e41, decide_eq_false_iff_not] at h2; obtain ⟨u, hu, hv, hc⟩ := m2 ⟨by simpa using h1, by omega⟩; have h4 : τ.ival 14 = 4 := hF.2.1; have h3 : τ.bval 49 = true := hF.1; rw [e49, decide_eq_true_eq] at h3; obtain rfl : u = 4 := (by omega); replace hc : τ.ival 6 < τ.ival 9 ∨ (τ.ival 6 = τ.ival 9 ∧ 4 ≤ 1) := hc; omega), ⟨(fun hF => by have h1 : τ.bval 40 = false := hF.2.2.2.2.2.2.2.2.2.1; have h2 : τ.bval 41 = false := hF.2.2.2.2.2.2.2.2.1; rw [eb] at h1; rw [e41, decide_eq_false_iff_not] at h2; obtain ⟨u, hu, hv, hc⟩ := m2 ⟨by simpa using h1, by omega⟩; have h4 : τ.ival 14 = 4 := hF.2.2.1; have h3 : τ.bval 50 = true := hF.1; rw [e50, beq_iff_eq] at h3; obtain rfl : u = 4 := (by omega); replace hc : τ.ival 6 < τ.ival 9 ∨ (τ.ival 6 = τ.ival 9 ∧ 4 ≤ 1) := hc; omega), (fun hF => lf0 (by simp only [Holds, Fact.holds] at hF; simp only [hF]))⟩⟩, ⟨⟨(fun hF => by have h1 : τ.bval 40 = false := hF.2.2.2.2.2.2.2.2.2.1; have h2 : τ.bval 41 = false := hF.2.2.2.2.2.2.2.2.1; rw [eb] at h1; rw [e41, decide_eq_false_iff_not] at h2; obtain ⟨u, hu, hv, hc⟩ := m2 ⟨by simpa using h1, by omega⟩; have h4 : τ.ival 14 = 5 := hF.2.1; have h3 : τ.bval 51 = true := hF.1; rw [e51, decide_eq_true_eq] at h3; obtain rfl : u = 5 := (by omega); replace hc : τ.ival 6 < τ.ival 10 ∨ (τ.ival 6 = τ.ival 10 ∧ 5 ≤ 1) := hc; omega), ⟨(fun hF => by have h1 : τ.bval 40 = false := hF.2.2.2.2.2.2.2.2.2.2.1; have h2 : τ.bval 41 = false := hF.2.2.2.2.2.2.2.2.2.1; rw [eb] at h1; rw [e41, decide_eq_false_iff_not] at h2; obtain ⟨u, hu, hv, hc⟩ := m2 ⟨by simpa using h1, by omega⟩; have h4 : τ.ival 14 = 5 := hF.2.2.1; have h3 : τ.bval 52 = true := hF.1; rw [e52, beq_iff_eq] at h3; obtain rfl : u = 5 := (by omega); replace hc : τ.ival 6 < τ.ival 10 ∨ (τ.ival 6 = τ.ival 10 ∧ 5 ≤ 1) := hc; omega), (fun hF => lf0 (by simp only [Holds, Fact.holds] at hF; simp only [hF]))⟩⟩, ⟨⟨(fun hF => by have h1 : τ.bval 40 = false := hF.2.2.2.2.2.2.2.2.2.2.1; have h2 : τ.bval 41 = false := hF.2.2.2.2.2.2.2.2.2.1; rw [eb] at h1; rw [e41, decide_eq_false_iff_not] at h2; obtain ⟨u, hu, hv, hc⟩ := m2 ⟨by simpa using h1, by omega⟩; have h4 : τ.ival 14 = 6 := hF.2.1; have h3 : τ.bval 53 = true := hF.1; rw [e53, decide_eq_true_eq] at h3; obtain rfl : u = 6 := (by omega); replace hc : τ.ival 6 < τ.ival 11 ∨ (τ.ival 6 = τ.ival 11 ∧ 6 ≤ 1) := hc; omega), ⟨(fun hF => by have h1 : τ.bval 40 = false := hF.2.2.2.2.2.2.2.2.2.2.2.1; have h2 : τ.bval 41 = false := hF.2.2.2.2.2.2.2.2.2.2.1; rw [eb] at h1; rw [e41, decide_eq_false_iff_not] at h2; obtain ⟨u, hu, hv, hc⟩ := m2 ⟨by simpa using h1, by omega⟩; have h4 : τ.ival 14 = 6 := hF.2.2.1; have h3 : τ.bval 54 = true := hF.1; rw [e54, beq_iff_eq] at h3; obtain rfl : u = 6 := (by omega); replace hc : τ.ival 6 < τ.ival 11 ∨ (τ.ival 6 = τ.ival 11 ∧ 6 ≤ 1) := hc; omega), (fun hF => lf0 (by simp only [Holds, Fact.holds] at hF; simp only [hF]))⟩⟩, ⟨⟨(fun hF => by have h1 : τ.bval 40 = false := hF.2.2.2.2.2.2.2.2.2.2.2.1; have h2 : τ.bval 41 = false := hF.2.2.2.2.2.2.2.2.2.2.1; rw [eb] at h1; rw [e41, decide_eq_false_iff_not] at h2; obtain ⟨u, hu, hv, hc⟩ := m2 ⟨by simpa using h1, by omega⟩; have h4 : τ.ival 14 = 7 := hF.2.1; have h3 : τ.bval 55 = true := hF.1; rw [e55, decide_eq_true_eq] at h3; obtain rfl : u = 7 := (by omega); replace hc : τ.ival 6 < τ.ival 12 ∨ (τ.ival 6 = τ.ival 12 ∧ 7 ≤ 1) := hc; omega), ⟨(fun hF => by have h1 : τ.bval 40 = false := hF.2.2.2.2.2.2.2.2.2.2.2.2.1; have h2 : τ.bval 41 = false := hF.2.2.2.2.2.2.2.2.2.2.2.1; rw [eb] at h1; rw [e41, decide_eq_false_iff_not] at h2; obtain ⟨u, hu, hv, hc⟩ := m2 ⟨by simpa using h1, by omega⟩; have h4 : τ.ival 14 = 7 := hF.2.2.1; have h3 : τ.bval 56 = true := hF.1; rw [e56, beq_iff_eq] at h3; obtain rfl : u = 7 := (by omega); replace hc : τ.ival 6 < τ.ival 12 ∨ (τ.ival 6 = τ.ival 12 ∧ 7 ≤ 1) := hc; omega), (fun hF => lf0 (by simp only [Holds, Fact.holds] at hF; simp only [hF]))⟩⟩, (fun hF => by have h1 : τ.bval 40 = false := hF.2.2.2.2.2.2.2.2.2.2.1; have h2 : τ.bval 41 = false := hF.2.2.2.2.2.2.2.2.2.1; rw [eb] at h1; rw [e41, decide_eq_false_iff_not] at h2; obtain ⟨u, hu, hv, hc⟩ := m2 ⟨by simpa using h1, by omega⟩; simp only [Holds, Fact.holds] at hF; omega)⟩⟩⟩⟩⟩⟩⟩⟩⟩⟩⟩

def ikI_s2 : Sv := .node 59 (.node 15 (.node 61 (.dead) (.leaf .normal ikS6 ikFf (ikLi (.int .i64 3)) ikA5)) (.leaf .normal ikS6 ikFf (ikLi (.int .i64 3)) ikA5)) (.node 60 (.node 15 (.node 61 (.dead) (.leaf .normal ikS6 ikFf (ikLi (.int .i64 3)) ikA5)) (.leaf .normal ikS6 ikFf (ikLi (.int .i64 3)) ikA5)) (.node 23 (.dead) (.pick 14 0 (.node 62 (.dead) (.leaf .normal ikS6 ikFf (ikLi (.int .i64 3)) ikA5)) (.pick 14 1 (.node 64 (.dead) (.leaf .normal ikS6 ikFf (ikLi (.int .i64 3)) ikA5)) (.pick 14 2 (.leaf .normal ikS6 ikFf (ikLi (.int .i64 3)) ikA5) (.pick 14 3 (.node 66 (.dead) (.node 67 (.dead) (.leaf .normal ikS6 ikFf (ikLi (.int .i64 3)) ikA5))) (.pick 14 4 (.node 68 (.dead) (.node 69 (.dead) (.leaf .normal ikS6 ikFf (ikLi (.int .i64 3)) ikA5))) (.pick 14 5 (.node 70 (.dead) (.node 71 (.dead) (.leaf .normal ikS6 ikFf (ikLi (.int .i64 3)) ikA5))) (.pick 14 6 (.node 72 (.dead) (.node 73 (.dead) (.leaf .normal ikS6 ikFf (ikLi (.int .i64 3)) ikA5))) (.pick 14 7 (.node 74 (.dead) (.node 75 (.dead) (.leaf .normal ikS6 ikFf (ikLi (.int .i64 3)) ikA5))) (.dead)))))))))))
set_option maxRecDepth 100000 in
theorem ikI_2 {W0 : World} {Z : Exit → Act → World → Prop} {X : Fz} {k : Nat} (τ : Sig) (e : Eqs τ 18 ikIG) (ht : τ.tab = (tabOf ckFs)) (hin : InsOk τ 18 ikK6) (hj : J6 X k τ) : segs τ (ikIQ W0 Z X k τ) ikI_s2 [.isn 17 2, .non 17 1, .non 17 0] := by
  have e23 : τ.bval 23 = (!τ.bval 15) := eqB (e.at 5 _ rfl rfl) rfl
  have e57 : τ.ival 57 = ((τ.ival 16 : Int).fdiv (2 ^ (min (2 : Int).toNat IntKind.u8.bits))) := eqI (e.at 39 _ rfl rfl) rfl
  have e58 : τ.ival 58 = ((τ.ival 57 : Int).tmod 2) := eqI (e.at 40 _ rfl rfl) rfl
  have e59 : τ.bval 59 = (τ.ival 58 == 0) := eqB (e.at 41 _ rfl rfl) rfl
  have e60 : τ.bval 60 = decide (τ.ival 7 ≤ τ.ival 13) := eqB (e.at 42 _ rfl rfl) rfl
  have e61 : τ.bval 61 = (τ.ival 14 == 2) := eqB (e.at 43 _ rfl rfl) rfl
  have e62 : τ.bval 62 = decide (τ.ival 7 > τ.ival 5) := eqB (e.at 44 _ rfl rfl) rfl
  have e64 : τ.bval 64 = decide (τ.ival 7 > τ.ival 6) := eqB (e.at 46 _ rfl rfl) rfl
  have e66 : τ.bval 66 = decide (τ.ival 7 > τ.ival 8) := eqB (e.at 48 _ rfl rfl) rfl
  have e67 : τ.bval 67 = (τ.ival 7 == τ.ival 8) := eqB (e.at 49 _ rfl rfl) rfl
  have e68 : τ.bval 68 = decide (τ.ival 7 > τ.ival 9) := eqB (e.at 50 _ rfl rfl) rfl
  have e69 : τ.bval 69 = (τ.ival 7 == τ.ival 9) := eqB (e.at 51 _ rfl rfl) rfl
  have e70 : τ.bval 70 = decide (τ.ival 7 > τ.ival 10) := eqB (e.at 52 _ rfl rfl) rfl
  have e71 : τ.bval 71 = (τ.ival 7 == τ.ival 10) := eqB (e.at 53 _ rfl rfl) rfl
  have e72 : τ.bval 72 = decide (τ.ival 7 > τ.ival 11) := eqB (e.at 54 _ rfl rfl) rfl
  have e73 : τ.bval 73 = (τ.ival 7 == τ.ival 11) := eqB (e.at 55 _ rfl rfl) rfl
  have e74 : τ.bval 74 = decide (τ.ival 7 > τ.ival 12) := eqB (e.at 56 _ rfl rfl) rfl
  have e75 : τ.bval 75 = (τ.ival 7 == τ.ival 12) := eqB (e.at 57 _ rfl rfl) rfl
  obtain ⟨m1, m2⟩ := J6_main hj 2 (by decide)
  have h15 : τ.bval 15 = decide (0 ≤ τ.ival 14) := hj.2.2.2.1
  have a16 := u8_range (hin 16 .u8 (by decide) rfl)
  have eb : τ.bval 59 = !bitI (τ.ival 16) 2 := by rw [e59, e58, e57]; exact bit0 rfl a16.1
  clear e59
  have pw : prAt (τ.ival 5) (τ.ival 6) (τ.ival 7) (τ.ival 8) (τ.ival 9) (τ.ival 10) (τ.ival 11) (τ.ival 12) ((2 : Nat) : Int) = τ.ival 7 := rfl
  rw [pw] at m1 m2
  have lf0 : τ.ival 17 = 2 → ikIQ W0 Z X k τ .normal ikS6 (asgS τ ((ikLi (.int .i64 3)) ++ ikA5)) := fun h17 =>
    leafI e ht hin hj (insOk_asg e hin 12 (by kernel_rfl)) rfl rfl rfl rfl rfl rfl rfl rfl rfl rfl rfl rfl rfl rfl rfl rfl rfl rfl (by rw [h17]; rfl) (by omega)
  exact ⟨⟨⟨(fun hF => m1 (fun hh => by have h1 := hF.2.2.1; replace h1 : τ.bval 59 = true := h1; rw [eb, hh.1] at h1; cases h1) ⟨by have h2 := hF.2.1; replace h2 : τ.bval 15 = true := h2; rw [h15, decide_eq_true_eq] at h2; exact h2, by have h3 := hF.1; replace h3 : τ.bval 61 = true := h3; rw [e61, beq_iff_eq] at h3; exact h3⟩), (fun hF => lf0 (by simp only [Holds, Fact.holds] at hF; simp only [hF]))⟩, (fun hF => lf0 (by simp only [Holds, Fact.holds] at hF; simp only [hF]))⟩, ⟨⟨⟨(fun hF => m1 (fun hh => by have h1 := hF.2.2.1; replace h1 : τ.bval 60 = true := h1; rw [e60, decide_eq_true_eq] at h1; have := hh.2; omega) ⟨by have h2 := hF.2.1; replace h2 : τ.bval 15 = true := h2; rw [h15, decide_eq_true_eq] at h2; exact h2, by have h3 := hF.1; replace h3 : τ.bval 61 = true := h3; rw [e61, beq_iff_eq] at h3; exact h3⟩), (fun hF => lf0 (by simp only [Holds, Fact.holds] at hF; simp only [hF]))⟩, (fun hF => lf0 (by simp only [Holds, Fact.holds] at hF; simp only [hF]))⟩, ⟨(fun hF => by have h1 : τ.bval 59 = false := hF.2.2.1; have h2 : τ.bval 60 = false := hF.2.1; rw [eb] at h1; rw [e60, decide_eq_false_iff_not] at h2; obtain ⟨u, hu, hv, hc⟩ := m2 ⟨by simpa using h1, by omega⟩; have h3 : τ.bval 23 = true := hF.1; rw [e23, h15, Bool.not_eq_true', decide_eq_false_iff_not] at h3; omega), ⟨⟨(fun hF => by have h1 : τ.bval 59 = false := hF.2.2.2.2.1; have h2 : τ.bval 60 = false := hF.2.2.2.1; rw [eb] at h1; rw [e60, decide_eq_false_iff_not] at h2; obtain ⟨u, hu, hv, hc⟩ := m2 ⟨by simpa using h1, by omega⟩; have h4 : τ.ival 14 = 0 := hF.2.1; have h3 : τ.bval 62 = true := hF.1; rw [e62, decide_eq_true_eq] at h3; obtain rfl : u = 0 := (by omega); replace hc : τ.ival 7 < τ.ival 5 ∨ (τ.ival 7 = τ.ival 5 ∧ 0 ≤ 2) := hc; omega), (fun hF => lf0 (by simp only [Holds, Fact.holds] at hF; simp only [hF]))⟩, ⟨⟨(fun hF => by have h1 : τ.bval 59 = false := hF.2.2.2.2.2.1; have h2 : τ.bval 60 = false := hF.2.2.2.2.1; rw [eb] at h1; rw [e60, decide_eq_false_iff_not] at h2; obtain ⟨u, hu, hv, hc⟩ := m2 ⟨by simpa using h1, by omega⟩; have h4 : τ.ival 14 = 1 := hF.2.1; have h3 : τ.bval 64 = true := hF.1; rw [e64, decide_eq_true_eq] at h3; obtain rfl : u = 1 := (by omega); replace hc : τ.ival 7 < τ.ival 6 ∨ (τ.ival 7 = τ.ival 6 ∧ 1 ≤ 2) := hc; omega), (fun hF => lf0 (by simp only [Holds, Fact.holds] at hF; simp only [hF]))⟩, ⟨(fun hF => lf0 (by simp only [Holds, Fact.holds] at hF; simp only [hF])), ⟨⟨(fun hF => by have h1 : τ.bval 59 = false := hF.2.2.2.2.2.2.2.1; have h2 : τ.bval 60 = false := hF.2.2.2.2.2.2.1; rw [eb] at h1; rw [e60, decide_eq_false_iff_not] at h2; obtain ⟨u, hu, hv, hc⟩ := m2 ⟨by simpa using h1, by omega⟩; have h4 : τ.ival 14 = 3 := hF.2.1; have h3 : τ.bval 66 = true := hF.1; rw [e66, decide_eq_true_eq] at h3; obtain rfl : u = 3 := (by omega); replace hc : τ.ival 7 < τ.ival 8 ∨ (τ.ival 7 = τ.ival 8 ∧ 3 ≤ 2) := hc; omega), ⟨(fun hF => by have h1 : τ.bval 59 = false := hF.2.2.2.2.2.2.2.2.1; have h2 : τ.bval 60 = false := hF.2.2.2.2.2.2.2.1; rw [eb] at h1; rw [e60, decide_eq_false_iff_not] at h2; obtain ⟨u, hu, hv, hc⟩ := m2 ⟨by simpa using h1, by omega⟩; have h4 : τ.ival 14 = 3 := hF.2.2.1; have h3 : τ.bval 67 = true := hF.1; rw [e67, beq_iff_eq] at h3; obtain rfl : u = 3 := (by omega); replace hc : τ.ival 7 < τ.ival 8 ∨ (τ.ival 7 = τ.ival 8 ∧ 3 ≤ 2) := hc; omega), (fun hF => lf0 (by simp only [Holds, Fact.holds] at hF; simp only [hF]))⟩⟩, ⟨⟨(fun hF => by have h1 : τ.bval 59 = false := hF.2.2.2.2.2.2.2.2.1; have h2 : τ.bval 60 = false := hF.2.2.2.2.2.2.2.1; rw [eb] at h1; rw [e60, decide_eq_false_iff_not] at h2; obtain ⟨u, hu, hv, hc⟩ := m2 ⟨by simpa using h1, by omega⟩; have h4 : τ.ival 14 = 4 := hF.2.1; have h3 : τ.bval 68 = true := hF.1; rw [e68, decide_eq_true_eq] at h3; obtain rfl : u = 4 := (by omega); replace hc : τ.ival 7 < τ.ival 9 ∨ (τ.ival 7 = τ.ival 9 ∧ 4 ≤ 2) := hc; omega), ⟨(fun hF => by have h1 : τ.bval 59 = false := hF.2.2.2.2.2.2.2.2.2.1; have h2 : τ.bval 60 = false := hF.2.2.2.2.2.2.2.2.1; rw [eb] at h1; rw [e60, decide_eq_false_iff_not] at h2; obtain ⟨u, hu, hv, hc⟩ := m2 ⟨by simpa using h1, by omega⟩; have h4 : τ.ival 14 = 4 := hF.2.2.1; have h3 : τ.bval 69 = true := hF.1; rw [e69, beq_iff_eq] at h3; obtain rfl : u = 4 := (by omega); replace hc : τ.ival 7 < τ.ival 9 ∨ (τ.ival 7 = τ.ival 9 ∧ 4 ≤ 2) := hc; omega), (fun hF => lf0 (by simp only [Holds, Fact.holds] at hF; simp only [hF]))⟩⟩, ⟨⟨(fun hF => by have h1 : τ.bval 59 = false := hF.2.2.2.2.2.2.2.2.2.1; have h2 : τ.bval 60 = false := hF.2.2.2.2.2.2.2.2.1; rw [eb] at h1; rw [e60, decide_eq_false_iff_not] at h2; obtain ⟨u, hu, hv, hc⟩ := m2 ⟨by simpa using h1, by omega⟩; have h4 : τ.ival 14 = 5 := hF.2.1; have h3 : τ.bval 70 = true := hF.1; rw [e70, decide_eq_true_eq] at h3; obtain rfl : u = 5 := (by omega); replace hc : τ.ival 7 < τ.ival 10 ∨ (τ.ival 7 = τ.ival 10 ∧ 5 ≤ 2) := hc; omega), ⟨(fun hF => by have h1 : τ.bval 59 = false := hF.2.2.2.2.2.2.2.2.2.2.1; have h2 : τ.bval 60 = false := hF.2.2.2.2.2.2.2.2.2.1; rw [eb] at h1; rw [e60, decide_eq_false_iff_not] at h2; obtain ⟨u, hu, hv, hc⟩ := m2 ⟨by simpa using h1, by omega⟩; have h4 : τ.ival 14 = 5 := hF.2.2.1; have h3 : τ.bval 71 = true := hF.1; rw [e71, beq_iff_eq] at h3; obtain rfl : u = 5 := (by omega); replace hc : τ.ival 7 < τ.ival 10 ∨ (τ.ival 7 = τ.ival 10 ∧ 5 ≤ 2) := hc; omega), (fun hF => lf0 (by simp only [Holds, Fact.holds] at hF; simp only [hF]))⟩⟩, ⟨⟨(fun hF => by have h1 : τ.bval 59 = false := hF.2.2.2.2.2.2.2.2.2.2.1; have h2 : τ.bval 60 = false := hF.2.2.2.2.2.2.2.2.2.1; rw [eb] at h1; rw [e60, decide_eq_false_iff_not] at h2; obtain ⟨u, hu, hv, hc⟩ := m2 ⟨by simpa using h1, by omega⟩; have h4 : τ.ival 14 = 6 := hF.2.1; have h3 : τ.bval 72 = true := hF.1; rw [e72, decide_eq_true_eq] at h3; obtain rfl : u = 6 := (by omega); replace hc : τ.ival 7 < τ.ival 11 ∨ (τ.ival 7 = τ.ival 11 ∧ 6 ≤ 2) := hc; omega), ⟨(fun hF => by have h1 : τ.bval 59 = false := hF.2.2.2.2.2.2.2.2.2.2.2.1; have h2 : τ.bval 60 = false := hF.2.2.2.2.2.2.2.2.2.2.1; rw [eb] at h1; rw [e60, decide_eq_false_iff_not] at h2; obtain ⟨u, hu, hv, hc⟩ := m2 ⟨by simpa using h1, by omega⟩; have h4 : τ.ival 14 = 6 := hF.2.2.1; have h3 : τ.bval 73 = true := hF.1; rw [e73, beq_iff_eq] at h3; obtain rfl : u = 6 := (by omega); replace hc : τ.ival 7 < τ.ival 11 ∨ (τ.ival 7 = τ.ival 11 ∧ 6 ≤ 2) := hc; omega), (fun hF => lf0 (by simp only [Holds, Fact.holds] at hF; simp only [hF]))⟩⟩, ⟨⟨(fun hF => by have h1 : τ.bval 59 = false := hF.2.2.2.2.2.2.2.2.2.2.2.1; have h2 : τ.bval 60 = false := hF.2.2.2.2.2.2.2.2.2.2.1; rw [eb] at h1; rw [e60, decide_eq_false_iff_not] at h2; obtain ⟨u, hu, hv, hc⟩ := m2 ⟨by simpa using h1, by omega⟩; have h4 : τ.ival 14 = 7 := hF.2.1; have h3 : τ.bval 74 = true := hF.1; rw [e74, decide_eq_true_eq] at h3; obtain rfl : u = 7 := (by omega); replace hc : τ.ival 7 < τ.ival 12 ∨ (τ.ival 7 = τ.ival 12 ∧ 7 ≤ 2) := hc; omega), ⟨(fun hF => by have h1 : τ.bval 59 = false := hF.2.2.2.2.2.2.2.2.2.2.2.2.1; have h2 : τ.bval 60 = false := hF.2.2.2.2.2.2.2.2.2.2.2.1; rw [eb] at h1; rw [e60, decide_eq_false_iff_not] at h2; obtain ⟨u, hu, hv, hc⟩ := m2 ⟨by simpa using h1, by omega⟩; have h4 : τ.ival 14 = 7 := hF.2.2.1; have h3 : τ.bval 75 = true := hF.1; rw [e75, beq_iff_eq] at h3; obtain rfl : u = 7 := (by omega); replace hc : τ.ival 7 < τ.ival 12 ∨ (τ.ival 7 = τ.ival 12 ∧ 7 ≤ 2) := hc; omega), (fun hF => lf0 (by simp only [Holds, Fact.holds] at hF; simp only [hF]))⟩⟩, (fun hF => by have h1 : τ.bval 59 = false := hF.2.2.2.2.2.2.2.2.2.2.1; have h2 : τ.bval 60 = false := hF.2.2.2.2.2.2.2.2.2.1; rw [eb] at h1; rw [e60, decide_eq_false_iff_not] at h2; obtain ⟨u, hu, hv, hc⟩ := m2 ⟨by simpa using h1, by omega⟩; simp only [Holds, Fact.holds] at hF; omega)⟩⟩⟩⟩⟩⟩⟩⟩⟩⟩⟩

def ikI_s3 : Sv := .node 78 (.node 15 (.node 80 (.dead) (.leaf .normal ikS6 ikFf (ikLi (.int .i64 4)) ikA5)) (.leaf .normal ikS6 ikFf (ikLi (.int .i64 4)) ikA5)) (.node 79 (.node 15 (.node 80 (.dead) (.leaf .normal ikS6 ikFf (ikLi (.int .i64 4)) ikA5)) (.leaf .normal ikS6 ikFf (ikLi (.int .i64 4)) ikA5)) (.node 23 (.dead) (.pick 14 0 (.node 81 (.dead) (.leaf .normal ikS6 ikFf (ikLi (.int .i64 4)) ikA5)) (.pick 14 1 (.node 83 (.dead) (.leaf .normal ikS6 ikFf (ikLi (.int .i64 4)) ikA5)) (.pick 14 2 (.node 85 (.dead) (.leaf .normal ikS6 ikFf (ikLi (.int .i64 4)) ikA5)) (.pick 14 3 (.leaf .normal ikS6 ikFf (ikLi (.int .i64 4)) ikA5) (.pick 14 4 (.node 87 (.dead) (.node 88 (.dead) (.leaf .normal ikS6 ikFf (ikLi (.int .i64 4)) ikA5))) (.pick 14 5 (.node 89 (.dead) (.node 90 (.dead) (.leaf .normal ikS6 ikFf (ikLi (.int .i64 4)) ikA5))) (.pick 14 6 (.node 91 (.dead) (.node 92 (.dead) (.leaf .normal ikS6 ikFf (ikLi (.int .i64 4)) ikA5))) (.pick 14 7 (.node 93 (.dead) (.node 94 (.dead) (.leaf .normal ikS6 ikFf (ikLi (.int .i64 4)) ikA5))) (.dead)))))))))))
set_option maxRecDepth 100000 in
theorem ikI_3 {W0 : World} {Z : Exit → Act → World → Prop} {X : Fz} {k : Nat} (τ : Sig) (e : Eqs τ 18 ikIG) (ht : τ.tab = (tabOf ckFs)) (hin : InsOk τ 18 ikK6) (hj : J6 X k τ) : segs τ (ikIQ W0 Z X k τ) ikI_s3 [.isn 17 3, .non 17 2, .non 17 1, .non 17 0] := by
  have e23 : τ.bval 23 = (!τ.bval 15) := eqB (e.at 5 _ rfl rfl) rfl
  have e76 : τ.ival 76 = ((τ.ival 16 : Int).fdiv (2 ^ (min (3 : Int).toNat IntKind.u8.bits))) := eqI (e.at 58 _ rfl rfl) rfl
  have e77 : τ.ival 77 = ((τ.ival 76 : Int).tmod 2) := eqI (e.at 59 _ rfl rfl) rfl
  have e78 : τ.bval 78 = (τ.ival 77 == 0) := eqB (e.at 60 _ rfl rfl) rfl
  have e79 : τ.bval 79 = decide (τ.ival 8 ≤ τ.ival 13) := eqB (e.at 61 _ rfl rfl) rfl
  have e80 : τ.bval 80 = (τ.ival 14 == 3) := eqB (e.at 62 _ rfl rfl) rfl
  have e81 : τ.bval 81 = decide (τ.ival 8 > τ.ival 5) := eqB (e.at 63 _ rfl rfl) rfl
  have e83 : τ.bval 83 = decide (τ.ival 8 > τ.ival 6) := eqB (e.at 65 _ rfl rfl) rfl
  have e85 : τ.bval 85 = decide (τ.ival 8 > τ.ival 7) := eqB (e.at 67 _ rfl rfl) rfl
  have e87 : τ.bval 87 = decide (τ.ival 8 > τ.ival 9) := eqB (e.at 69 _ rfl rfl) rfl
  have e88 : τ.bval 88 = (τ.ival 8 == τ.ival 9) := eqB (e.at 70 _ rfl rfl) rfl
  have e89 : τ.bval 89 = decide (τ.ival 8 > τ.ival 10) := eqB (e.at 71 _ rfl rfl) rfl
  have e90 : τ.bval 90 = (τ.ival 8 == τ.ival 10) := eqB (e.at 72 _ rfl rfl) rfl
  have e91 : τ.bval 91 = decide (τ.ival 8 > τ.ival 11) := eqB (e.at 73 _ rfl rfl) rfl
  have e92 : τ.bval 92 = (τ.ival 8 == τ.ival 11) := eqB (e.at 74 _ rfl rfl) rfl
  have e93 : τ.bval 93 = decide (τ.ival 8 > τ.ival 12) := eqB (e.at 75 _ rfl rfl) rfl
  have e94 : τ.bval 94 = (τ.ival 8 == τ.ival 12) := eqB (e.at 76 _ rfl rfl) rfl
  obtain ⟨m1, m2⟩ := J6_main hj 3 (by decide)
  have h15 : τ.bval 15 = decide (0 ≤ τ.ival 14) := hj.2.2.2.1
  have a16 := u8_range (hin 16 .u8 (by decide) rfl)
  have eb : τ.bval 78 = !bitI (τ.ival 16) 3 := by rw [e78, e77, e76]; exact bit0 rfl a16.1
  clear e78
  have pw : prAt (τ.ival 5) (τ.ival 6) (τ.ival 7) (τ.ival 8) (τ.ival 9) (τ.ival 10) (τ.ival 11) (τ.ival 12) ((3 : Nat) : Int) = τ.ival 8 := rfl
  rw [pw] at m1 m2
  have lf0 : τ.ival 17 = 3 → ikIQ W0 Z X k τ .normal ikS6 (asgS τ ((ikLi (.int .i64 4)) ++ ikA5)) := fun h17 =>
    leafI e ht hin hj (insOk_asg e hin 12 (by kernel_rfl)) rfl rfl rfl rfl rfl rfl rfl rfl rfl rfl rfl rfl rfl rfl rfl rfl rfl rfl (by rw [h17]; rfl) (by omega)
  exact ⟨⟨⟨(fun hF => m1 (fun hh => by have h1 := hF.2.2.1; replace h1 : τ.bval 78 = true := h1; rw [eb, hh.1] at h1; cases h1) ⟨by have h2 := hF.2.1; replace h2 : τ.bval 15 = true := h2; rw [h15, decide_eq_true_eq] at h2; exact h2, by have h3 := hF.1; replace h3 : τ.bval 80 = true := h3; rw [e80, beq_iff_eq] at h3; exact h3⟩), (fun hF => lf0 (by simp only [Holds, Fact.holds] at hF; simp only [hF]))⟩, (fun hF => lf0 (by simp only [Holds, Fact.holds] at hF; simp only [hF]))⟩, ⟨⟨⟨(fun hF => m1 (fun hh => by have h1 := hF.2.2.1; replace h1 : τ.bval 79 = true := h1; rw [e79, decide_eq_true_eq] at h1; have := hh.2; omega) ⟨by have h2 := hF.2.1; replace h2 : τ.bval 15 = true := h2; rw [h15, decide_eq_true_eq] at h2; exact h2, by have h3 := hF.1; replace h3 : τ.bval 80 = true := h3; rw [e80, beq_iff_eq] at h3; exact h3⟩), (fun hF => lf0 (by simp only [Holds, Fact.holds] at hF; simp only [hF]))⟩, (fun hF => lf0 (by simp only [Holds, Fact.holds] at hF; simp only [hF]))⟩, ⟨(fun hF => by have h1 : τ.bval 78 = false := hF.2.2.1; have h2 : τ.bval 79 = false := hF.2.1; rw [eb] at h1; rw [e79, decide_eq_false_iff_not] at h2; obtain ⟨u, hu, hv, hc⟩ := m2 ⟨by simpa using h1, by omega⟩; have h3 : τ.bval 23 = true := hF.1; rw [e23, h15, Bool.not_eq_true', decide_eq_false_iff_not] at h3; omega), ⟨⟨(fun hF => by have h1 : τ.bval 78 = false := hF.2.2.2.2.1; have h2 : τ.bval 79 = false := hF.2.2.2.1; rw [eb] at h1; rw [e79, decide_eq_false_iff_not] at h2; obtain ⟨u, hu, hv, hc⟩ := m2 ⟨by simpa using h1, by omega⟩; have h4 : τ.ival 14 = 0 := hF.2.1; have h3 : τ.bval 81 = true := hF.1; rw [e81, decide_eq_true_eq] at h3; obtain rfl : u = 0 := (by omega); replace hc : τ.ival 8 < τ.ival 5 ∨ (τ.ival 8 = τ.ival 5 ∧ 0 ≤ 3) := hc; omega), (fun hF => lf0 (by simp only [Holds, Fact.holds] at hF; simp only [hF]))⟩, ⟨⟨(fun hF => by have h1 : τ.bval 78 = false := hF.2.2.2.2.2.1; have h2 : τ.bval 79 = false := hF.2.2.2.2.1; rw [eb] at h1; rw [e79, decide_eq_false_iff_not] at h2; obtain ⟨u, hu, hv, hc⟩ := m2 ⟨by simpa using h1, by omega⟩; have h4 : τ.ival 14 = 1 := hF.2.1; have h3 : τ.bval 83 = true := hF.1; rw [e83, decide_eq_true_eq] at h3; obtain rfl : u = 1 := (by omega); replace hc : τ.ival 8 < τ.ival 6 ∨ (τ.ival 8 = τ.ival 6 ∧ 1 ≤ 3) := hc; omega), (fun hF => lf0 (by simp only [Holds, Fact.holds] at hF; simp only [hF]))⟩, ⟨⟨(fun hF => by have h1 : τ.bval 78 = false := hF.2.2.2.2.2.2.1; have h2 : τ.bval 79 = false := hF.2.2.2.2.2.1; rw [eb] at h1; rw [e79, decide_eq_false_iff_not] at h2; obtain ⟨u, hu, hv, hc⟩ := m2 ⟨by simpa using h1, by omega⟩; have h4 : τ.ival 14 = 2 := hF.2.1; have h3 : τ.bval 85 = true := hF.1; rw [e85, decide_eq_true_eq] at h3; obtain rfl : u = 2 := (by omega); replace hc : τ.ival 8 < τ.ival 7 ∨ (τ.ival 8 = τ.ival 7 ∧ 2 ≤ 3) := hc; omega), (fun hF => lf0 (by simp only [Holds, Fact.holds] at hF; simp only [hF]))⟩, ⟨(fun hF => lf0 (by simp only [Holds, Fact.holds] at hF; simp only [hF])), ⟨⟨(fun hF => by have h1 : τ.bval 78 = false := hF.2.2.2.2.2.2.2.2.1; have h2 : τ.bval 79 = false := hF.2.2.2.2.2.2.2.1; rw [eb] at h1; rw [e79, decide_eq_false_iff_not] at h2; obtain ⟨u, hu, hv, hc⟩ := m2 ⟨by simpa using h1, by omega⟩; have h4 : τ.ival 14 = 4 := hF.2.1; have h3 : τ.bval 87 = true := hF.1; rw [e87, decide_eq_true_eq] at h3; obtain rfl : u = 4 := (by omega); replace hc : τ.ival 8 < τ.ival 9 ∨ (τ.ival 8 = τ.ival 9 ∧ 4 ≤ 3) := hc; omega), ⟨(fun hF => by have h1 : τ.bval 78 = false := hF.2.2.2.2.2.2.2.2.2.1; have h2 : τ.bval 79 = false := hF.2.2.2.2.2.2.2.2.1; rw [eb] at h1; rw [e79, decide_eq_false_iff_not] at h2; obtain ⟨u, hu, hv, hc⟩ := m2 ⟨by simpa using h1, by omega⟩; have h4 : τ.ival 14 = 4 := hF.2.2.1; have h3 : τ.bval 88 = true := hF.1; rw [e88, beq_iff_eq] at h3; obtain rfl : u = 4 := (by omega); replace hc : τ.ival 8 < τ.ival 9 ∨ (τ.ival 8 = τ.ival 9 ∧ 4 ≤ 3) := hc; omega), (fun hF => lf0 (by simp only [Holds, Fact.holds] at hF; simp only [hF]))⟩⟩, ⟨⟨(fun hF => by have h1 : τ.bval 78 = false := hF.2.2.2.2.2.2.2.2.2.1; have h2 : τ.bval 79 = false := hF.2.2.2.2.2.2.2.2.1; rw [eb] at h1; rw [e79, decide_eq_false_iff_not] at h2; obtain ⟨u, hu, hv, hc⟩ := m2 ⟨by simpa using h1, by omega⟩; have h4 : τ.ival 14 = 5 := hF.2.1; have h3 : τ.bval 89 = true := hF.1; rw [e89, decide_eq_true_eq] at h3; obtain rfl : u = 5 := (by omega); replace hc : τ.ival 8 < τ.ival 10 ∨ (τ.ival 8 = τ.ival 10 ∧ 5 ≤ 3) := hc; omega), ⟨(fun hF => by have h1 : τ.bval 78 = false := hF.2.2.2.2.2.2.2.2.2.2.1; have h2 : τ.bval 79 = false := hF.2.2.2.2.2.2.2.2.2.1; rw [eb] at h1; rw [e79, decide_eq_false_iff_not] at h2; obtain ⟨u, hu, hv, hc⟩ := m2 ⟨by simpa using h1, by omega⟩; have h4 : τ.ival 14 = 5 := hF.2.2.1; have h3 : τ.bval 90 = true := hF.1; rw [e90, beq_iff_eq] at h3; obtain rfl : u = 5 := (by omega); replace hc : τ.ival 8 < τ.ival 10 ∨ (τ.ival 8 = τ.ival 10 ∧ 5 ≤ 3) := hc; omega), (fun hF => lf0 (by simp only [Holds, Fact.holds] at hF; simp only [hF]))⟩⟩, ⟨⟨(fun hF => by have h1 : τ.bval 78 = false := hF.2.2.2.2.2.2.2.2.2.2.1; have h2 : τ.bval 79 = false := hF.2.2.2.2.2.2.2.2.2.1; rw [eb] at h1; rw [e79, decide_eq_false_iff_not] at h2; obtain ⟨u, hu, hv, hc⟩ := m2 ⟨by simpa using h1, by omega⟩; have h4 : τ.ival 14 = 6 := hF.2.1; have h3 : τ.bval 91 = true := hF.1; rw [e91, decide_eq_true_eq] at h3; obtain rfl : u = 6 := (by omega); replace hc : τ.ival 8 < τ.ival 11 ∨ (τ.ival 8 = τ.ival 11 ∧ 6 ≤ 3) := hc; omega), ⟨(fun hF => by have h1 : τ.bval 78 = false := hF.2.2.2.2.2.2.2.2.2.2.2.1; have h2 : τ.bval 79 = false := hF.2.2.2.2.2.2.2.2.2.2.1; rw [eb] at h1; rw [e79, decide_eq_false_iff_not] at h2; obtain ⟨u, hu, hv, hc⟩ := m2 ⟨by simpa using h1, by omega⟩; have h4 : τ.ival 14 = 6 := hF.2.2.1; have h3 : τ.bval 92 = true := hF.1; rw [e92, beq_iff_eq] at h3; obtain rfl : u = 6 := (by omega); replace hc : τ.ival 8 < τ.ival 11 ∨ (τ.ival 8 = τ.ival 11 ∧ 6 ≤ 3) := hc; omega), (fun hF => lf0 (by simp only [Holds, Fact.holds] at hF; simp only [hF]))⟩⟩, ⟨⟨(fun hF => by have h1 : τ.bval 78 = false := hF.2.2.2.2.2.2.2.2.2.2.2.1; have h2 : τ.bval 79 = false := hF.2.2.2.2.2.2.2.2.2.2.1; rw [eb] at h1; rw [e79, decide_eq_false_iff_not] at h2; obtain ⟨u, hu, hv, hc⟩ := m2 ⟨by simpa using h1, by omega⟩; have h4 : τ.ival 14 = 7 := hF.2.1; have h3 : τ.bval 93 = true := hF.1; rw [e93, decide_eq_true_eq] at h3; obtain rfl : u = 7 := (by omega); replace hc : τ.ival 8 < τ.ival 12 ∨ (τ.ival 8 = τ.ival 12 ∧ 7 ≤ 3) := hc; omega), ⟨(fun hF => by have h1 : τ.bval 78 = false := hF.2.2.2.2.2.2.2.2.2.2.2.2.1; have h2 : τ.bval 79 = false := hF.2.2.2.2.2.2.2.2.2.2.2.1; rw [eb] at h1; rw [e79, decide_eq_false_iff_not] at h2; obtain ⟨u, hu, hv, hc⟩ := m2 ⟨by simpa using h1, by omega⟩; have h4 : τ.ival 14 = 7 := hF.2.2.1; have h3 : τ.bval 94 = true := hF.1; rw [e94, beq_iff_eq] at h3; obtain rfl : u = 7 := (by omega); replace hc : τ.ival 8 < τ.ival 12 ∨ (τ.ival 8 = τ.ival 12 ∧ 7 ≤ 3) := hc; omega), (fun hF => lf0 (by simp only [Holds, Fact.holds] at hF; simp only [hF]))⟩⟩, (fun hF => by have h1 : τ.bval 78 = false := hF.2.2.2.2.2.2.2.2.2.2.1; have h2 : τ.bval 79 = false := hF.2.2.2.2.2.2.2.2.2.1; rw [eb] at h1; rw [e79, decide_eq_false_iff_not] at h2; obtain ⟨u, hu, hv, hc⟩ := m2 ⟨by simpa using h1, by omega⟩; simp only [Holds, Fact.holds] at hF; omega)⟩⟩⟩⟩⟩⟩⟩⟩⟩⟩⟩

def ikI_s4 : Sv := .node 97 (.node 15 (.node 99 (.dead) (.leaf .normal ikS6 ikFf (ikLi (.int .i64 5)) ikA5)) (.leaf .normal ikS6 ikFf (ikLi (.int .i64 5)) ikA5)) (.node 98 (.node 15 (.node 99 (.dead) (.leaf .normal ikS6 ikFf (ikLi (.int .i64 5)) ikA5)) (.leaf .normal ikS6 ikFf (ikLi (.int .i64 5)) ikA5)) (.node 23 (.dead) (.pick 14 0 (.node 100 (.dead) (.leaf .normal ikS6 ikFf (ikLi (.int .i64 5)) ikA5)) (.pick 14 1 (.node 102 (.dead) (.leaf .normal ikS6 ikFf (ikLi (.int .i64 5)) ikA5)) (.pick 14 2 (.node 104 (.dead) (.leaf .normal ikS6 ikFf (ikLi (.int .i64 5)) ikA5)) (.pick 14 3 (.node 106 (.dead) (.leaf .normal ikS6 ikFf (ikLi (.int .i64 5)) ikA5)) (.pick 14 4 (.leaf .normal ikS6 ikFf (ikLi (.int .i64 5)) ikA5) (.pick 14 5 (.node 108 (.dead) (.node 109 (.dead) (.leaf .normal ikS6 ikFf (ikLi (.int .i64 5)) ikA5))) (.pick 14 6 (.node 110 (.dead) (.node 111 (.dead) (.leaf .normal ikS6 ikFf (ikLi (.int .i64 5)) ikA5))) (.pick 14 7 (.node 112 (.dead) (.node 113 (.dead) (.leaf .normal ikS6 ikFf (ikLi (.int .i64 5)) ikA5))) (.dead)))))))))))
set_option maxRecDepth 100000 in
theorem ikI_4 {W0 : World} {Z : Exit → Act → World → Prop} {X : Fz} {k : Nat} (τ : Sig) (e : Eqs τ 18 ikIG) (ht : τ.tab = (tabOf ckFs)) (hin : InsOk τ 18 ikK6) (hj : J6 X k τ) : segs τ (ikIQ W0 Z X k τ) ikI_s4 [.isn 17 4, .non 17 3, .non 17 2, .non 17 1, .non 17 0] := by
  have e23 : τ.bval 23 = (!τ.bval 15) := eqB (e.at 5 _ rfl rfl) rfl
  have e95 : τ.ival 95 = ((τ.ival 16 : Int).fdiv (2 ^ (min (4 : Int).toNat IntKind.u8.bits))) := eqI (e.at 77 _ rfl rfl) rfl
  have e96 : τ.ival 96 = ((τ.ival 95 : Int).tmod 2) := eqI (e.at 78 _ rfl rfl) rfl
  have e97 : τ.bval 97 = (τ.ival 96 == 0) := eqB (e.at 79 _ rfl rfl) rfl
  have e98 : τ.bval 98 = decide (τ.ival 9 ≤ τ.ival 13) := eqB (e.at 80 _ rfl rfl) rfl
  have e99 : τ.bval 99 = (τ.ival 14 == 4) := eqB (e.at 81 _ rfl rfl) rfl
  have e100 : τ.bval 100 = decide (τ.ival 9 > τ.ival 5) := eqB (e.at 82 _ rfl rfl) rfl
  have e102 : τ.bval 102 = decide (τ.ival 9 > τ.ival 6) := eqB (e.at 84 _ rfl rfl) rfl
  have e104 : τ.bval 104 = decide (τ.ival 9 > τ.ival 7) := eqB (e.at 86 _ rfl rfl) rfl
  have e106 : τ.bval 106 = decide (τ.ival 9 > τ.ival 8) := eqB (e.at 88 _ rfl rfl) rfl
  have e108 : τ.bval 108 = decide (τ.ival 9 > τ.ival 10) := eqB (e.at 90 _ rfl rfl) rfl
  have e109 : τ.bval 109 = (τ.ival 9 == τ.ival 10) := eqB (e.at 91 _ rfl rfl) rfl
  have e110 : τ.bval 110 = decide (τ.ival 9 > τ.ival 11) := eqB (e.at 92 _ rfl rfl) rfl
  have e111 : τ.bval 111 = (τ.ival 9 == τ.ival 11) := eqB (e.at 93 _ rfl rfl) rfl
  have e112 : τ.bval 112 = decide (τ.ival 9 > τ.ival 12) := eqB (e.at 94 _ rfl rfl) rfl
  have e113 : τ.bval 113 = (τ.ival 9 == τ.ival 12) := eqB (e.at 95 _ rfl rfl) rfl
  obtain ⟨m1, m2⟩ := J6_main hj 4 (by decide)
  have h15 : τ.bval 15 = decide (0 ≤ τ.ival 14) := hj.2.2.2.1
  have a16 := u8_range (hin 16 .u8 (by decide) rfl)
  have eb : τ.bval 97 = !bitI (τ.ival 16) 4 := by rw [e97, e96, e95]; exact bit0 rfl a16.1
  clear e97
  have pw : prAt (τ.ival 5) (τ.ival 6) (τ.ival 7) (τ.ival 8) (τ.ival 9) (τ.ival 10) (τ.ival 11) (τ.ival 12) ((4 : Nat) : Int) = τ.ival 9 := rfl
  rw [pw] at m1 m2
  have lf0 : τ.ival 17 = 4 → ikIQ W0 Z X k τ .normal ikS6 (asgS τ ((ikLi (.int .i64 5)) ++ ikA5)) := fun h17 =>
    leafI e ht hin hj (insOk_asg e hin 12 (by kernel_rfl)) rfl rfl rfl rfl rfl rfl rfl rfl rfl rfl rfl rfl rfl rfl rfl rfl rfl rfl (by rw [h17]; rfl) (by omega)
  exact ⟨⟨⟨(fun hF => m1 (fun hh => by have h1 := hF.2.2.1; replace h1 : τ.bval 97 = true := h1; rw [eb, hh.1] at h1; cases h1) ⟨by have h2 := hF.2.1; replace h2 : τ.bval 15 = true := h2; rw [h15, decide_eq_true_eq] at h2; exact h2, by have h3 := hF.1; replace h3 : τ.bval 99 = true := h3; rw [e99, beq_iff_eq] at h3; exact h3⟩), (fun hF => lf0 (by simp only [Holds, Fact.holds] at hF; simp only [hF]))⟩, (fun hF => lf0 (by simp only [Holds, Fact.holds] at hF; simp only [hF]))⟩, ⟨⟨⟨(fun hF => m1 (fun hh => by have h1 := hF.2.2.1; replace h1 : τ.bval 98 = true := h1; rw [e98, decide_eq_true_eq] at h1; have := hh.2; omega) ⟨by have h2 := hF.2.1; replace h2 : τ.bval 15 = true := h2; rw [h15, decide_eq_true_eq] at h2; exact h2, by have h3 := hF.1; replace h3 : τ.bval 99 = true := h3; rw [e99, beq_iff_eq] at h3; exact h3⟩), (fun hF => lf0 (by simp only [Holds, Fact.holds] at hF; simp only [hF]))⟩, (fun hF => lf0 (by simp only [Holds, Fact.holds] at hF; simp only [hF]))⟩, ⟨(fun hF => by have h1 : τ.bval 97 = false := hF.2.2.1; have h2 : τ.bval 98 = false := hF.2.1; rw [eb] at h1; rw [e98, decide_eq_false_iff_not] at h2; obtain ⟨u, hu, hv, hc⟩ := m2 ⟨by simpa using h1, by omega⟩; have h3 : τ.bval 23 = true := hF.1; rw [e23, h15, Bool.not_eq_true', decide_eq_false_iff_not] at h3; omega), ⟨⟨(fun hF => by have h1 : τ.bval 97 = false := hF.2.2.2.2.1; have h2 : τ.bval 98 = false := hF.2.2.2.1; rw [eb] at h1; rw [e98, decide_eq_false_iff_not] at h2; obtain ⟨u, hu, hv, hc⟩ := m2 ⟨by simpa using h1, by omega⟩; have h4 : τ.ival 14 = 0 := hF.2.1; have h3 : τ.bval 100 = true := hF.1; rw [e100, decide_eq_true_eq] at h3; obtain rfl : u = 0 := (by omega); replace hc : τ.ival 9 < τ.ival 5 ∨ (τ.ival 9 = τ.ival 5 ∧ 0 ≤ 4) := hc; omega), (fun hF => lf0 (by simp only [Holds, Fact.holds] at hF; simp only [hF]))⟩, ⟨⟨(fun hF => by have h1 : τ.bval 97 = false := hF.2.2.2.2.2.1; have h2 : τ.bval 98 = false := hF.2.2.2.2.1; rw [eb] at h1; rw [e98, decide_eq_false_iff_not] at h2; obtain ⟨u, hu, hv, hc⟩ := m2 ⟨by simpa using h1, by omega⟩; have h4 : τ.ival 14 = 1 := hF.2.1; have h3 : τ.bval 102 = true := hF.1; rw [e102, decide_eq_true_eq] at h3; obtain rfl : u = 1 := (by omega); replace hc : τ.ival 9 < τ.ival 6 ∨ (τ.ival 9 = τ.ival 6 ∧ 1 ≤ 4) := hc; omega), (fun hF => lf0 (by simp only [Holds, Fact.holds] at hF; simp only [hF]))⟩, ⟨⟨(fun hF => by have h1 : τ.bval 97 = false := hF.2.2.2.2.2.2.1; have h2 : τ.bval 98 = false := hF.2.2.2.2.2.1; rw [eb] at h1; rw [e98, decide_eq_false_iff_not] at h2; obtain ⟨u, hu, hv, hc⟩ := m2 ⟨by simpa using h1, by omega⟩; have h4 : τ.ival 14 = 2 := hF.2.1; have h3 : τ.bval 104 = true := hF.1; rw [e104, decide_eq_true_eq] at h3; obtain rfl : u = 2 := (by omega); replace hc : τ.ival 9 < τ.ival 7 ∨ (τ.ival 9 = τ.ival 7 ∧ 2 ≤ 4) := hc; omega), (fun hF => lf0 (by simp only [Holds, Fact.holds] at hF; simp only [hF]))⟩, ⟨⟨(fun hF => by have h1 : τ.bval 97 = false := hF.2.2.2.2.2.2.2.1; have h2 : τ.bval 98 = false := hF.2.2.2.2.2.2.1; rw [eb] at h1; rw [e98, decide_eq_false_iff_not] at h2; obtain ⟨u, hu, hv, hc⟩ := m2 ⟨by simpa using h1, by omega⟩; have h4 : τ.ival 14 = 3 := hF.2.1; have h3 : τ.bval 106 = true := hF.1; rw [e106, decide_eq_true_eq] at h3; obtain rfl : u = 3 := (by omega); replace hc : τ.ival 9 < τ.ival 8 ∨ (τ.ival 9 = τ.ival 8 ∧ 3 ≤ 4) := hc; omega), (fun hF => lf0 (by simp only [Holds, Fact.holds] at hF; simp only [hF]))⟩, ⟨(fun hF => lf0 (by simp only [Holds, Fact.holds] at hF; simp only [hF])), ⟨⟨(fun hF => by have h1 : τ.bval 97 = false := hF.2.2.2.2.2.2.2.2.2.1; have h2 : τ.bval 98 = false := hF.2.2.2.2.2.2.2.2.1; rw [eb] at h1; rw [e98, decide_eq_false_iff_not] at h2; obtain ⟨u, hu, hv, hc⟩ := m2 ⟨by simpa using h1, by omega⟩; have h4 : τ.ival 14 = 5 := hF.2.1; have h3 : τ.bval 108 = true := hF.1; rw [e108, decide_eq_true_eq] at h3; obtain rfl : u = 5 := (by omega); replace hc : τ.ival 9 < τ.ival 10 ∨ (τ.ival 9 = τ.ival 10 ∧ 5 ≤ 4) := hc; omega), ⟨(fun hF => by have h1 : τ.bval 97 = false := hF.2.2.2.2.2.2.2.2.2.2.1; have h2 : τ.bval 98 = false := hF.2.2.2.2.2.2.2.2.2.1; rw [eb] at h1; rw [e98, decide_eq_false_iff_not] at h2; obtain ⟨u, hu, hv, hc⟩ := m2 ⟨by simpa using h1, by omega⟩; have h4 : τ.ival 14 = 5 := hF.2.2.1; have h3 : τ.bval 109 = true := hF.1; rw [e109, beq_iff_eq] at h3; obtain rfl : u = 5 := (by omega); replace hc : τ.ival 9 < τ.ival 10 ∨ (τ.ival 9 = τ.ival 10 ∧ 5 ≤ 4) := hc; omega), (fun hF => lf0 (by simp only [Holds, Fact.holds] at hF; simp only [hF]))⟩⟩, ⟨⟨(fun hF => by have h1 : τ.bval 97 = false := hF.2.2.2.2.2.2.2.2.2.2.1; have h2 : τ.bval 98 = false := hF.2.2.2.2.2.2.2.2.2.1; rw [eb] at h1; rw [e98, decide_eq_false_iff_not] at h2; obtain ⟨u, hu, hv, hc⟩ := m2 ⟨by simpa using h1, by omega⟩; have h4 : τ.ival 14 = 6 := hF.2.1; have h3 : τ.bval 110 = true := hF.1; rw [e110, decide_eq_true_eq] at h3; obtain rfl : u = 6 := (by omega); replace hc : τ.ival 9 < τ.ival 11 ∨ (τ.ival 9 = τ.ival 11 ∧ 6 ≤ 4) := hc; omega), ⟨(fun hF => by have h1 : τ.bval 97 = false := hF.2.2.2.2.2.2.2.2.2.2.2.1; have h2 : τ.bval 98 = false := hF.2.2.2.2.2.2.2.2.2.2.1; rw [eb] at h1; rw [e98, decide_eq_false_iff_not] at h2; obtain ⟨u, hu, hv, hc⟩ := m2 ⟨by simpa using h1, by omega⟩; have h4 : τ.ival 14 = 6 := hF.2.2.1; have h3 : τ.bval 111 = true := hF.1; rw [e111, beq_iff_eq] at h3; obtain rfl : u = 6 := (by omega); replace hc : τ.ival 9 < τ.ival 11 ∨ (τ.ival 9 = τ.ival 11 ∧ 6 ≤ 4) := hc; omega), (fun hF => lf0 (by simp only [Holds, Fact.holds] at hF; simp only [hF]))⟩⟩, ⟨⟨(fun hF => by have h1 : τ.bval 97 = false := hF.2.2.2.2.2.2.2.2.2.2.2.1; have h2 : τ.bval 98 = false := hF.2.2.2.2.2.2.2.2.2.2.1; rw [eb] at h1; rw [e98, decide_eq_false_iff_not] at h2; obtain ⟨u, hu, hv, hc⟩ := m2 ⟨by simpa using h1, by omega⟩; have h4 : τ.ival 14 = 7 := hF.2.1; have h3 : τ.bval 112 = true := hF.1; rw [e112, decide_eq_true_eq] at h3; obtain rfl : u = 7 := (by omega); replace hc : τ.ival 9 < τ.ival 12 ∨ (τ.ival 9 = τ.ival 12 ∧ 7 ≤ 4) := hc; omega), ⟨(fun hF => by have h1 : τ.bval 97 = false := hF.2.2.2.2.2.2.2.2.2.2.2.2.1; have h2 : τ.bval 98 = false := hF.2.2.2.2.2.2.2.2.2.2.2.1; rw [eb] at h1; rw [e98, decide_eq_false_iff_not] at h2; obtain ⟨u, hu, hv, hc⟩ := m2 ⟨by simpa using h1, by omega⟩; have h4 : τ.ival 14 = 7 := hF.2.2.1; have h3 : τ.bval 113 = true := hF.1; rw [e113, beq_iff_eq] at h3; obtain rfl : u = 7 := (by omega); replace hc : τ.ival 9 < τ.ival 12 ∨ (τ.ival 9 = τ.ival 12 ∧ 7 ≤ 4) := hc; omega), (fun hF => lf0 (by simp only [Holds, Fact.holds] at hF; simp only [hF]))⟩⟩, (fun hF => by have h1 : τ.bval 97 = false := hF.2.2.2.2.2.2.2.2.2.2.1; have h2 : τ.bval 98 = false := hF.2.2.2.2.2.2.2.2.2.1; rw [eb] at h1; rw [e98, decide_eq_false_iff_not] at h2; obtain ⟨u, hu, hv, hc⟩ := m2 ⟨by simpa using h1, by omega⟩; simp only [Holds, Fact.holds] at hF; omega)⟩⟩⟩⟩⟩⟩⟩⟩⟩⟩⟩

def ikI_s5 : Sv := .node 116 (.node 15 (.node 118 (.dead) (.leaf .normal ikS6 ikFf (ikLi (.int .i64 6)) ikA5)) (.leaf .normal ikS6 ikFf (ikLi (.int .i64 6)) ikA5)) (.node 117 (.node 15 (.node 118 (.dead) (.leaf .normal ikS6 ikFf (ikLi (.int .i64 6)) ikA5)) (.leaf .normal ikS6 ikFf (ikLi (.int .i64 6)) ikA5)) (.node 23 (.dead) (.pick 14 0 (.node 119 (.dead) (.leaf .normal ikS6 ikFf (ikLi (.int .i64 6)) ikA5)) (.pick 14 1 (.node 121 (.dead) (.leaf .normal ikS6 ikFf (ikLi (.int .i64 6)) ikA5)) (.pick 14 2 (.node 123 (.dead) (.leaf .normal ikS6 ikFf (ikLi (.int .i64 6)) ikA5)) (.pick 14 3 (.node 125 (.dead) (.leaf .normal ikS6 ikFf (ikLi (.int .i64 6)) ikA5)) (.pick 14 4 (.node 127 (.dead) (.leaf .normal ikS6 ikFf (ikLi (.int .i64 6)) ikA5)) (.pick 14 5 (.leaf .normal ikS6 ikFf (ikLi (.int .i64 6)) ikA5) (.pick 14 6 (.node 129 (.dead) (.node 130 (.dead) (.leaf .normal ikS6 ikFf (ikLi (.int .i64 6)) ikA5))) (.pick 14 7 (.node 131 (.dead) (.node 132 (.dead) (.leaf .normal ikS6 ikFf (ikLi (.int .i64 6)) ikA5))) (.dead)))))))))))
set_option maxRecDepth 100000 in
theorem ikI_5 {W0 : World} {Z : Exit → Act → World → Prop} {X : Fz} {k : Nat} (τ : Sig) (e : Eqs τ 18 ikIG) (ht : τ.tab = (tabOf ckFs)) (hin : InsOk τ 18 ikK6) (hj : J6 X k τ) : segs τ (ikIQ W0 Z X k τ) ikI_s5 [.isn 17 5, .non 17 4, .non 17 3, .non 17 2, .non 17 1, .non 17 0] := by
  have e23 : τ.bval 23 = (!τ.bval 15) := eqB (e.at 5 _ rfl rfl) rfl
  have e114 : τ.ival 114 = ((τ.ival 16 : Int).fdiv (2 ^ (min (5 : Int).toNat IntKind.u8.bits))) := eqI (e.at 96 _ rfl rfl) rfl
  have e115 : τ.ival 115 = ((τ.ival 114 : Int).tmod 2) := eqI (e.at 97 _ rfl rfl) rfl
  have e116 : τ.bval 116 = (τ.ival 115 == 0) := eqB (e.at 98 _ rfl rfl) rfl
  have e117 : τ.bval 117 = decide (τ.ival 10 ≤ τ.ival 13) := eqB (e.at 99 _ rfl rfl) rfl
  have e118 : τ.bval 118 = (τ.ival 14 == 5) := eqB (e.at 100 _ rfl rfl) rfl
  have e119 : τ.bval 119 = decide (τ.ival 10 > τ.ival 5) := eqB (e.at 101 _ rfl rfl) rfl
  have e121 : τ.bval 121 = decide (τ.ival 10 > τ.ival 6) := eqB (e.at 103 _ rfl rfl) rfl
  have e123 : τ.bval 123 = decide (τ.ival 10 > τ.ival 7) := eqB (e.at 105 _ rfl rfl) rfl
  have e125 : τ.bval 125 = decide (τ.ival 10 > τ.ival 8) := eqB (e.at 107 _ rfl rfl) rfl
  have e127 : τ.bval 127 = decide (τ.ival 10 > τ.ival 9) := eqB (e.at 109 _ rfl rfl) rfl
  have e129 : τ.bval 129 = decide (τ.ival 10 > τ.ival 11) := eqB (e.at 111 _ rfl rfl) rfl
  have e130 : τ.bval 130 = (τ.ival 10 == τ.ival 11) := eqB (e.at 112 _ rfl rfl) rfl
  have e131 : τ.bval 131 = decide (τ.ival 10 > τ.ival 12) := eqB (e.at 113 _ rfl rfl) rfl
  have e132 : τ.bval 132 = (τ.ival 10 == τ.ival 12) := eqB (e.at 114 _ rfl rfl) rfl
  obtain ⟨m1, m2⟩ := J6_main hj 5 (by decide)
  have h15 : τ.bval 15 = decide (0 ≤ τ.ival 14) := hj.2.2.2.1
  have a16 := u8_range (hin 16 .u8 (by decide) rfl)
  have eb : τ.bval 116 = !bitI (τ.ival 16) 5 := by rw [e116, e115, e114]; exact bit0 rfl a16.1
  clear e116
  have pw : prAt (τ.ival 5) (τ.ival 6) (τ.ival 7) (τ.ival 8) (τ.ival 9) (τ.ival 10) (τ.ival 11) (τ.ival 12) ((5 : Nat) : Int) = τ.ival 10 := rfl
  rw [pw] at m1 m2
  have lf0 : τ.ival 17 = 5 → ikIQ W0 Z X k τ .normal ikS6 (asgS τ ((ikLi (.int .i64 6)) ++ ikA5)) := fun h17 =>
    leafI e ht hin hj (insOk_asg e hin 12 (by kernel_rfl)) rfl rfl rfl rfl rfl rfl rfl rfl rfl rfl rfl rfl rfl rfl rfl rfl rfl rfl (by rw [h17]; rfl) (by omega)
  exact ⟨⟨⟨(fun hF => m1 (fun hh => by have h1 := hF.2.2.1; replace h1 : τ.bval 116 = true := h1; rw [eb, hh.1] at h1; cases h1) ⟨by have h2 := hF.2.1; replace h2 : τ.bval 15 = true := h2; rw [h15, decide_eq_true_eq] at h2; exact h2, by have h3 := hF.1; replace h3 : τ.bval 118 = true := h3; rw [e118, beq_iff_eq] at h3; exact h3⟩), (fun hF => lf0 (by simp only [Holds, Fact.holds] at hF; simp only [hF]))⟩, (fun hF => lf0 (by simp only [Holds, Fact.holds] at hF; simp only [hF]))⟩, ⟨⟨⟨(fun hF => m1 (fun hh => by have h1 := hF.2.2.1; replace h1 : τ.bval 117 = true := h1; rw [e117, decide_eq_true_eq] at h1; have := hh.2; omega) ⟨by have h2 := hF.2.1; replace h2 : τ.bval 15 = true := h2; rw [h15, decide_eq_true_eq] at h2; exact h2, by have h3 := hF.1; replace h3 : τ.bval 118 = true := h3; rw [e118, beq_iff_eq] at h3; exact h3⟩), (fun hF => lf0 (by simp only [Holds, Fact.holds] at hF; simp only [hF]))⟩, (fun hF => lf0 (by simp only [Holds, Fact.holds] at hF; simp only [hF]))⟩, ⟨(fun hF => by have h1 : τ.bval 116 = false := hF.2.2.1; have h2 : τ.bval 117 = false := hF.2.1; rw [eb] at h1; rw [e117, decide_eq_false_iff_not] at h2; obtain ⟨u, hu, hv, hc⟩ := m2 ⟨by simpa using h1, by omega⟩; have h3 : τ.bval 23 = true := hF.1; rw [e23, h15, Bool.not_eq_true', decide_eq_false_iff_not] at h3; omega), ⟨⟨(fun hF => by have h1 : τ.bval 116 = false := hF.2.2.2.2.1; have h2 : τ.bval 117 = false := hF.2.2.2.1; rw [eb] at h1; rw [e117, decide_eq_false_iff_not] at h2; obtain ⟨u, hu, hv, hc⟩ := m2 ⟨by simpa using h1, by omega⟩; have h4 : τ.ival 14 = 0 := hF.2.1; have h3 : τ.bval 119 = true := hF.1; rw [e119, decide_eq_true_eq] at h3; obtain rfl : u = 0 := (by omega); replace hc : τ.ival 10 < τ.ival 5 ∨ (τ.ival 10 = τ.ival 5 ∧ 0 ≤ 5) := hc; omega), (fun hF => lf0 (by simp only [Holds, Fact.holds] at hF; simp only [hF]))⟩, ⟨⟨(fun hF => by have h1 : τ.bval 116 = false := hF.2.2.2.2.2.1; have h2 : τ.bval 117 = false := hF.2.2.2.2.1; rw [eb] at h1; rw [e117, decide_eq_false_iff_not] at h2; obtain ⟨u, hu, hv, hc⟩ := m2 ⟨by simpa using h1, by omega⟩; have h4 : τ.ival 14 = 1 := hF.2.1; have h3 : τ.bval 121 = true := hF.1; rw [e121, decide_eq_true_eq] at h3; obtain rfl : u = 1 := (by omega); replace hc : τ.ival 10 < τ.ival 6 ∨ (τ.ival 10 = τ.ival 6 ∧ 1 ≤ 5) := hc; omega), (fun hF => lf0 (by simp only [Holds, Fact.holds] at hF; simp only [hF]))⟩, ⟨⟨(fun hF => by have h1 : τ.bval 116 = false := hF.2.2.2.2.2.2.1; have h2 : τ.bval 117 = false := hF.2.2.2.2.2.1; rw [eb] at h1; rw [e117, decide_eq_false_iff_not] at h2; obtain ⟨u, hu, hv, hc⟩ := m2 ⟨by simpa using h1, by omega⟩; have h4 : τ.ival 14 = 2 := hF.2.1; have h3 : τ.bval 123 = true := hF.1; rw [e123, decide_eq_true_eq] at h3; obtain rfl : u = 2 := (by omega); replace hc : τ.ival 10 < τ.ival 7 ∨ (τ.ival 10 = τ.ival 7 ∧ 2 ≤ 5) := hc; omega), (fun hF => lf0 (by simp only [Holds, Fact.holds] at hF; simp only [hF]))⟩, ⟨⟨(fun hF => by have h1 : τ.bval 116 = false := hF.2.2.2.2.2.2.2.1; have h2 : τ.bval 117 = false := hF.2.2.2.2.2.2.1; rw [eb] at h1; rw [e117, decide_eq_false_iff_not] at h2; obtain ⟨u, hu, hv, hc⟩ := m2 ⟨by simpa using h1, by omega⟩; have h4 : τ.ival 14 = 3 := hF.2.1; have h3 : τ.bval 125 = true := hF.1; rw [e125, decide_eq_true_eq] at h3; obtain rfl : u = 3 := (by omega); replace hc : τ.ival 10 < τ.ival 8 ∨ (τ.ival 10 = τ.ival 8 ∧ 3 ≤ 5) := hc; omega), (fun hF => lf0 (by simp only [Holds, Fact.holds] at hF; simp only [hF]))⟩, ⟨⟨(fun hF => by have h1 : τ.bval 116 = false := hF.2.2.2.2.2.2.2.2.1; have h2 : τ.bval 117 = false := hF.2.2.2.2.2.2.2.1; rw [eb] at h1; rw [e117, decide_eq_false_iff_not] at h2; obtain ⟨u, hu, hv, hc⟩ := m2 ⟨by simpa using h1, by omega⟩; have h4 : τ.ival 14 = 4 := hF.2.1; have h3 : τ.bval 127 = true := hF.1; rw [e127, decide_eq_true_eq] at h3; obtain rfl : u = 4 := (by omega); replace hc : τ.ival 10 < τ.ival 9 ∨ (τ.ival 10 = τ.ival 9 ∧ 4 ≤ 5) := hc; omega), (fun hF => lf0 (by simp only [Holds, Fact.holds] at hF; simp only [hF]))⟩, ⟨(fun hF => lf0 (by simp only [Holds, Fact.holds] at hF; simp only [hF])), ⟨⟨(fun hF => by have h1 : τ.bval 116 = false := hF.2.2.2.2.2.2.2.2.2.2.1; have h2 : τ.bval 117 = false := hF.2.2.2.2.2.2.2.2.2.1; rw [eb] at h1; rw [e117, decide_eq_false_iff_not] at h2; obtain ⟨u, hu, hv, hc⟩ := m2 ⟨by simpa using h1, by omega⟩; have h4 : τ.ival 14 = 6 := hF.2.1; have h3 : τ.bval 129 = true := hF.1; rw [e129, decide_eq_true_eq] at h3; obtain rfl : u = 6 := (by omega); replace hc : τ.ival 10 < τ.ival 11 ∨ (τ.ival 10 = τ.ival 11 ∧ 6 ≤ 5) := hc; omega), ⟨(fun hF => by have h1 : τ.bval 116 = false := hF.2.2.2.2.2.2.2.2.2.2.2.1; have h2 : τ.bval 117 = false := hF.2.2.2.2.2.2.2.2.2.2.1; rw [eb] at h1; rw [e117, decide_eq_false_iff_not] at h2; obtain ⟨u, hu, hv, hc⟩ := m2 ⟨by simpa using h1, by omega⟩; have h4 : τ.ival 14 = 6 := hF.2.2.1; have h3 : τ.bval 130 = true := hF.1; rw [e130, beq_iff_eq] at h3; obtain rfl : u = 6 := (by omega); replace hc : τ.ival 10 < τ.ival 11 ∨ (τ.ival 10 = τ.ival 11 ∧ 6 ≤ 5) := hc; omega), (fun hF => lf0 (by simp only [Holds, Fact.holds] at hF; simp only [hF]))⟩⟩, ⟨⟨(fun hF => by have h1 : τ.bval 116 = false := hF.2.2.2.2.2.2.2.2.2.2.2.1; have h2 : τ.bval 117 = false := hF.2.2.2.2.2.2.2.2.2.2.1; rw [eb] at h1; rw [e117, decide_eq_false_iff_not] at h2; obtain ⟨u, hu, hv, hc⟩ := m2 ⟨by simpa using h1, by omega⟩; have h4 : τ.ival 14 = 7 := hF.2.1; have h3 : τ.bval 131 = true := hF.1; rw [e131, decide_eq_true_eq] at h3; obtain rfl : u = 7 := (by omega); replace hc : τ.ival 10 < τ.ival 12 ∨ (τ.ival 10 = τ.ival 12 ∧ 7 ≤ 5) := hc; omega), ⟨(fun hF => by have h1 : τ.bval 116 = false := hF.2.2.2.2.2.2.2.2.2.2.2.2.1; have h2 : τ.bval 117 = false := hF.2.2.2.2.2.2.2.2.2.2.2.1; rw [eb] at h1; rw [e117, decide_eq_false_iff_not] at h2; obtain ⟨u, hu, hv, hc⟩ := m2 ⟨by simpa using h1, by omega⟩; have h4 : τ.ival 14 = 7 := hF.2.2.1; have h3 : τ.bval 132 = true := hF.1; rw [e132, beq_iff_eq] at h3; obtain rfl : u = 7 := (by omega); replace hc : τ.ival 10 < τ.ival 12 ∨ (τ.ival 10 = τ.ival 12 ∧ 7 ≤ 5) := hc; omega), (fun hF => lf0 (by simp only [Holds, Fact.holds] at hF; simp only [hF]))⟩⟩, (fun hF => by have h1 : τ.bval 116 = false := hF.2.2.2.2.2.2.2.2.2.2.1; have h2 : τ.bval 117 = false := hF.2.2.2.2.2.2.2.2.2.1; rw [eb] at h1; rw [e117, decide_eq_false_iff_not] at h2; obtain ⟨u, hu, hv, hc⟩ := m2 ⟨by simpa using h1, by omega⟩; simp only [Holds, Fact.holds] at hF; omega)⟩⟩⟩⟩⟩⟩⟩⟩⟩⟩⟩

def ikI_s6 : Sv := .node 135 (.node 15 (.node 137 (.dead) (.leaf .normal ikS6 ikFf (ikLi (.int .i64 7)) ikA5)) (.leaf .normal ikS6 ikFf (ikLi (.int .i64 7)) ikA5)) (.node 136 (.node 15 (.node 137 (.dead) (.leaf .normal ikS6 ikFf (ikLi (.int .i64 7)) ikA5)) (.leaf .normal ikS6 ikFf (ikLi (.int .i64 7)) ikA5)) (.node 23 (.dead) (.pick 14 0 (.node 138 (.dead) (.leaf .normal ikS6 ikFf (ikLi (.int .i64 7)) ikA5)) (.pick 14 1 (.node 140 (.dead) (.leaf .normal ikS6 ikFf (ikLi (.int .i64 7)) ikA5)) (.pick 14 2 (.node 142 (.dead) (.leaf .normal ikS6 ikFf (ikLi (.int .i64 7)) ikA5)) (.pick 14 3 (.node 144 (.dead) (.leaf .normal ikS6 ikFf (ikLi (.int .i64 7)) ikA5)) (.pick 14 4 (.node 146 (.dead) (.leaf .normal ikS6 ikFf (ikLi (.int .i64 7)) ikA5)) (.pick 14 5 (.node 148 (.dead) (.leaf .normal ikS6 ikFf (ikLi (.int .i64 7)) ikA5)) (.pick 14 6 (.leaf .normal ikS6 ikFf (ikLi (.int .i64 7)) ikA5) (.pick 14 7 (.node 150 (.dead) (.node 151 (.dead) (.leaf .normal ikS6 ikFf (ikLi (.int .i64 7)) ikA5))) (.dead)))))))))))
set_option maxRecDepth 100000 in
theorem ikI_6 {W0 : World} {Z : Exit → Act → World → Prop} {X : Fz} {k : Nat} (τ : Sig) (e : Eqs τ 18 ikIG) (ht : τ.tab = (tabOf ckFs)) (hin : InsOk τ 18 ikK6) (hj : J6 X k τ) : segs τ (ikIQ W0 Z X k τ) ikI_s6 [.isn 17 6, .non 17 5, .non 17 4, .non 17 3, .non 17 2, .non 17 1, .non 17 0] := by
  have e23 : τ.bval 23 = (!τ.bval 15) := eqB (e.at 5 _ rfl rfl) rfl
  have e133 : τ.ival 133 = ((τ.ival 16 : Int).fdiv (2 ^ (min (6 : Int).toNat IntKind.u8.bits))) := eqI (e.at 115 _ rfl rfl) rfl
  have e134 : τ.ival 134 = ((τ.ival 133 : Int).tmod 2) := eqI (e.at 116 _ rfl rfl) rfl
  have e135 : τ.bval 135 = (τ.ival 134 == 0) := eqB (e.at 117 _ rfl rfl) rfl
  have e136 : τ.bval 136 = decide (τ.ival 11 ≤ τ.ival 13) := eqB (e.at 118 _ rfl rfl) rfl
  have e137 : τ.bval 137 = (τ.ival 14 == 6) := eqB (e.at 119 _ rfl rfl) rfl
  have e138 : τ.bval 138 = decide (τ.ival 11 > τ.ival 5) := eqB (e.at 120 _ rfl rfl) rfl
  have e140 : τ.bval 140 = decide (τ.ival 11 > τ.ival 6) := eqB (e.at 122 _ rfl rfl) rfl
  have e142 : τ.bval 142 = decide (τ.ival 11 > τ.ival 7) := eqB (e.at 124 _ rfl rfl) rfl
  have e144 : τ.bval 144 = decide (τ.ival 11 > τ.ival 8) := eqB (e.at 126 _ rfl rfl) rfl
  have e146 : τ.bval 146 = decide (τ.ival 11 > τ.ival 9) := eqB (e.at 128 _ rfl rfl) rfl
  have e148 : τ.bval 148 = decide (τ.ival 11 > τ.ival 10) := eqB (e.at 130 _ rfl rfl) rfl
  have e150 : τ.bval 150 = decide (τ.ival 11 > τ.ival 12) := eqB (e.at 132 _ rfl rfl) rfl
  have e151 : τ.bval 151 = (τ.ival 11 == τ.ival 12) := eqB (e.at 133 _ rfl rfl) rfl
  obtain ⟨m1, m2⟩ := J6_main hj 6 (by decide)
  have h15 : τ.bval 15 = decide (0 ≤ τ.ival 14) := hj.2.2.2.1
  have a16 := u8_range (hin 16 .u8 (by decide) rfl)
  have eb : τ.bval 135 = !bitI (τ.ival 16) 6 := by rw [e135, e134, e133]; exact bit0 rfl a16.1
  clear e135
  have pw : prAt (τ.ival 5) (τ.ival 6) (τ.ival 7) (τ.ival 8) (τ.ival 9) (τ.ival 10) (τ.ival 11) (τ.ival 12) ((6 : Nat) : Int) = τ.ival 11 := rfl
  rw [pw] at m1 m2
  have lf0 : τ.ival 17 = 6 → ikIQ W0 Z X k τ .normal ikS6 (asgS τ ((ikLi (.int .i64 7)) ++ ikA5)) := fun h17 =>
    leafI e ht hin hj (insOk_asg e hin 12 (by kernel_rfl)) rfl rfl rfl rfl rfl rfl rfl rfl rfl rfl rfl rfl rfl rfl rfl rfl rfl rfl (by rw [h17]; rfl) (by omega)
  exact ⟨⟨⟨(fun hF => m1 (fun hh => by have h1 := hF.2.2.1; replace h1 : τ.bval 135 = true := h1; rw [eb, hh.1] at h1; cases h1) ⟨by have h2 := hF.2.1; replace h2 : τ.bval 15 = true := h2; rw [h15, decide_eq_true_eq] at h2; exact h2, by have h3 := hF.1; replace h3 : τ.bval 137 = true := h3; rw [e137, beq_iff_eq] at h3; exact h3⟩), (fun hF => lf0 (by simp only [Holds, Fact.holds] at hF; simp only [hF]))⟩, (fun hF => lf0 (by simp only [Holds, Fact.holds] at hF; simp only [hF]))⟩, ⟨⟨⟨(fun hF => m1 (fun hh => by have h1 := hF.2.2.1; replace h1 : τ.bval 136 = true := h1; rw [e136, decide_eq_true_eq] at h1; have := hh.2; omega) ⟨by have h2 := hF.2.1; replace h2 : τ.bval 15 = true := h2; rw [h15, decide_eq_true_eq] at h2; exact h2, by have h3 := hF.1; replace h3 : τ.bval 137 = true := h3; rw [e137, beq_iff_eq] at h3; exact h3⟩), (fun hF => lf0 (by simp only [Holds, Fact.holds] at hF; simp only [hF]))⟩, (fun hF => lf0 (by simp only [Holds, Fact.holds] at hF; simp only [hF]))⟩, ⟨(fun hF => by have h1 : τ.bval 135 = false := hF.2.2.1; have h2 : τ.bval 136 = false := hF.2.1; rw [eb] at h1; rw [e136, decide_eq_false_iff_not] at h2; obtain ⟨u, hu, hv, hc⟩ := m2 ⟨by simpa using h1, by omega⟩; have h3 : τ.bval 23 = true := hF.1; rw [e23, h15, Bool.not_eq_true', decide_eq_false_iff_not] at h3; omega), ⟨⟨(fun hF => by have h1 : τ.bval 135 = false := hF.2.2.2.2.1; have h2 : τ.bval 136 = false := hF.2.2.2.1; rw [eb] at h1; rw [e136, decide_eq_false_iff_not] at h2; obtain ⟨u, hu, hv, hc⟩ := m2 ⟨by simpa using h1, by omega⟩; have h4 : τ.ival 14 = 0 := hF.2.1; have h3 : τ.bval 138 = true := hF.1; rw [e138, decide_eq_true_eq] at h3; obtain rfl : u = 0 := (by omega); replace hc : τ.ival 11 < τ.ival 5 ∨ (τ.ival 11 = τ.ival 5 ∧ 0 ≤ 6) := hc; omega), (fun hF => lf0 (by simp only [Holds, Fact.holds] at hF; simp only [hF]))⟩, ⟨⟨(fun hF => by have h1 : τ.bval 135 = false := hF.2.2.2.2.2.1; have h2 : τ.bval 136 = false := hF.2.2.2.2.1; rw [eb] at h1; rw [e136, decide_eq_false_iff_not] at h2; obtain ⟨u, hu, hv, hc⟩ := m2 ⟨by simpa using h1, by omega⟩; have h4 : τ.ival 14 = 1 := hF.2.1; have h3 : τ.bval 140 = true := hF.1; rw [e140, decide_eq_true_eq] at h3; obtain rfl : u = 1 := (by omega); replace hc : τ.ival 11 < τ.ival 6 ∨ (τ.ival 11 = τ.ival 6 ∧ 1 ≤ 6) := hc; omega), (fun hF => lf0 (by simp only [Holds, Fact.holds] at hF; simp only [hF]))⟩, ⟨⟨(fun hF => by have h1 : τ.bval 135 = false := hF.2.2.2.2.2.2.1; have h2 : τ.bval 136 = false := hF.2.2.2.2.2.1; rw [eb] at h1; rw [e136, decide_eq_false_iff_not] at h2; obtain ⟨u, hu, hv, hc⟩ := m2 ⟨by simpa using h1, by omega⟩; have h4 : τ.ival 14 = 2 := hF.2.1; have h3 : τ.bval 142 = true := hF.1; rw [e142, decide_eq_true_eq] at h3; obtain rfl : u = 2 := (by omega); replace hc : τ.ival 11 < τ.ival 7 ∨ (τ.ival 11 = τ.ival 7 ∧ 2 ≤ 6) := hc; omega), (fun hF => lf0 (by simp only [Holds, Fact.holds] at hF; simp only [hF]))⟩, ⟨⟨(fun hF => by have h1 : τ.bval 135 = false := hF.2.2.2.2.2.2.2.1; have h2 : τ.bval 136 = false := hF.2.2.2.2.2.2.1; rw [eb] at h1; rw [e136, decide_eq_false_iff_not] at h2; obtain ⟨u, hu, hv, hc⟩ := m2 ⟨by simpa using h1, by omega⟩; have h4 : τ.ival 14 = 3 := hF.2.1; have h3 : τ.bval 144 = true := hF.1; rw [e144, decide_eq_true_eq] at h3; obtain rfl : u = 3 := (by omega); replace hc : τ.ival 11 < τ.ival 8 ∨ (τ.ival 11 = τ.ival 8 ∧ 3 ≤ 6) := hc; omega), (fun hF => lf0 (by simp only [Holds, Fact.holds] at hF; simp only [hF]))⟩, ⟨⟨(fun hF => by have h1 : τ.bval 135 = false := hF.2.2.2.2.2.2.2.2.1; have h2 : τ.bval 136 = false := hF.2.2.2.2.2.2.2.1; rw [eb] at h1; rw [e136, decide_eq_false_iff_not] at h2; obtain ⟨u, hu, hv, hc⟩ := m2 ⟨by simpa using h1, by omega⟩; have h4 : τ.ival 14 = 4 := hF.2.1; have h3 : τ.bval 146 = true := hF.1; rw [e146, decide_eq_true_eq] at h3; obtain rfl : u = 4 := (by omega); replace hc : τ.ival 11 < τ.ival 9 ∨ (τ.ival 11 = τ.ival 9 ∧ 4 ≤ 6) := hc; omega), (fun hF => lf0 (by simp only [Holds, Fact.holds] at hF; simp only [hF]))⟩, ⟨⟨(fun hF => by have h1 : τ.bval 135 = false := hF.2.2.2.2.2.2.2.2.2.1; have h2 : τ.bval 136 = false := hF.2.2.2.2.2.2.2.2.1; rw [eb] at h1; rw [e136, decide_eq_false_iff_not] at h2; obtain ⟨u, hu, hv, hc⟩ := m2 ⟨by simpa using h1, by omega⟩; have h4 : τ.ival 14 = 5 := hF.2.1; have h3 : τ.bval 148 = true := hF.1; rw [e148, decide_eq_true_eq] at h3; obtain rfl : u = 5 := (by omega); replace hc : τ.ival 11 < τ.ival 10 ∨ (τ.ival 11 = τ.ival 10 ∧ 5 ≤ 6) := hc; omega), (fun hF => lf0 (by simp only [Holds, Fact.holds] at hF; simp only [hF]))⟩, ⟨(fun hF => lf0 (by simp only [Holds, Fact.holds] at hF; simp only [hF])), ⟨⟨(fun hF => by have h1 : τ.bval 135 = false := hF.2.2.2.2.2.2.2.2.2.2.2.1; have h2 : τ.bval 136 = false := hF.2.2.2.2.2.2.2.2.2.2.1; rw [eb] at h1; rw [e136, decide_eq_false_iff_not] at h2; obtain ⟨u, hu, hv, hc⟩ := m2 ⟨by simpa using h1, by omega⟩; have h4 : τ.ival 14 = 7 := hF.2.1; have h3 : τ.bval 150 = true := hF.1; rw [e150, decide_eq_true_eq] at h3; obtain rfl : u = 7 := (by omega); replace hc : τ.ival 11 < τ.ival 12 ∨ (τ.ival 11 = τ.ival 12 ∧ 7 ≤ 6) := hc; omega), ⟨(fun hF => by have h1 : τ.bval 135 = false := hF.2.2.2.2.2.2.2.2.2.2.2.2.1; have h2 : τ.bval 136 = false := hF.2.2.2.2.2.2.2.2.2.2.2.1; rw [eb] at h1; rw [e136, decide_eq_false_iff_not] at h2; obtain ⟨u, hu, hv, hc⟩ := m2 ⟨by simpa using h1, by omega⟩; have h4 : τ.ival 14 = 7 := hF.2.2.1; have h3 : τ.bval 151 = true := hF.1; rw [e151, beq_iff_eq] at h3; obtain rfl : u = 7 := (by omega); replace hc : τ.ival 11 < τ.ival 12 ∨ (τ.ival 11 = τ.ival 12 ∧ 7 ≤ 6) := hc; omega), (fun hF => lf0 (by simp only [Holds, Fact.holds] at hF; simp only [hF]))⟩⟩, (fun hF => by have h1 : τ.bval 135 = false := hF.2.2.2.2.2.2.2.2.2.2.1; have h2 : τ.bval 136 = false := hF.2.2.2.2.2.2.2.2.2.1; rw [eb] at h1; rw [e136, decide_eq_false_iff_not] at h2; obtain ⟨u, hu, hv, hc⟩ := m2 ⟨by simpa using h1, by omega⟩; simp only [Holds, Fact.holds] at hF; omega)⟩⟩⟩⟩⟩⟩⟩⟩⟩⟩⟩

def ikI_s7 : Sv := .node 154 (.node 15 (.node 156 (.dead) (.leaf .normal ikS6 ikFf (ikLi (.int .i64 8)) ikA5)) (.leaf .normal ikS6 ikFf (ikLi (.int .i64 8)) ikA5)) (.node 155 (.node 15 (.node 156 (.dead) (.leaf .normal ikS6 ikFf (ikLi (.int .i64 8)) ikA5)) (.leaf .normal ikS6 ikFf (ikLi (.int .i64 8)) ikA5)) (.node 23 (.dead) (.pick 14 0 (.node 157 (.dead) (.leaf .normal ikS6 ikFf (ikLi (.int .i64 8)) ikA5)) (.pick 14 1 (.node 159 (.dead) (.leaf .normal ikS6 ikFf (ikLi (.int .i64 8)) ikA5)) (.pick 14 2 (.node 161 (.dead) (.leaf .normal ikS6 ikFf (ikLi (.int .i64 8)) ikA5)) (.pick 14 3 (.node 163 (.dead) (.leaf .normal ikS6 ikFf (ikLi (.int .i64 8)) ikA5)) (.pick 14 4 (.node 165 (.dead) (.leaf .normal ikS6 ikFf (ikLi (.int .i64 8)) ikA5)) (.pick 14 5 (.node 167 (.dead) (.leaf .normal ikS6 ikFf (ikLi (.int .i64 8)) ikA5)) (.pick 14 6 (.node 169 (.dead) (.leaf .normal ikS6 ikFf (ikLi (.int .i64 8)) ikA5)) (.pick 14 7 (.leaf .normal ikS6 ikFf (ikLi (.int .i64 8)) ikA5) (.dead)))))))))))
set_option maxRecDepth 100000 in
theorem ikI_7 {W0 : World} {Z : Exit → Act → World → Prop} {X : Fz} {k : Nat} (τ : Sig) (e : Eqs τ 18 ikIG) (ht : τ.tab = (tabOf ckFs)) (hin : InsOk τ 18 ikK6) (hj : J6 X k τ) : segs τ (ikIQ W0 Z X k τ) ikI_s7 [.isn 17 7, .non 17 6, .non 17 5, .non 17 4, .non 17 3, .non 17 2, .non 17 1, .non 17 0] := by
  have e23 : τ.bval 23 = (!τ.bval 15) := eqB (e.at 5 _ rfl rfl) rfl
  have e152 : τ.ival 152 = ((τ.ival 16 : Int).fdiv (2 ^ (min (7 : Int).toNat IntKind.u8.bits))) := eqI (e.at 134 _ rfl rfl) rfl
  have e153 : τ.ival 153 = ((τ.ival 152 : Int).tmod 2) := eqI (e.at 135 _ rfl rfl) rfl
  have e154 : τ.bval 154 = (τ.ival 153 == 0) := eqB (e.at 136 _ rfl rfl) rfl
  have e155 : τ.bval 155 = decide (τ.ival 12 ≤ τ.ival 13) := eqB (e.at 137 _ rfl rfl) rfl
  have e156 : τ.bval 156 = (τ.ival 14 == 7) := eqB (e.at 138 _ rfl rfl) rfl
  have e157 : τ.bval 157 = decide (τ.ival 12 > τ.ival 5) := eqB (e.at 139 _ rfl rfl) rfl
  have e159 : τ.bval 159 = decide (τ.ival 12 > τ.ival 6) := eqB (e.at 141 _ rfl rfl) rfl
  have e161 : τ.bval 161 = decide (τ.ival 12 > τ.ival 7) := eqB (e.at 143 _ rfl rfl) rfl
  have e163 : τ.bval 163 = decide (τ.ival 12 > τ.ival 8) := eqB (e.at 145 _ rfl rfl) rfl
  have e165 : τ.bval 165 = decide (τ.ival 12 > τ.ival 9) := eqB (e.at 147 _ rfl rfl) rfl
  have e167 : τ.bval 167 = decide (τ.ival 12 > τ.ival 10) := eqB (e.at 149 _ rfl rfl) rfl
  have e169 : τ.bval 169 = decide (τ.ival 12 > τ.ival 11) := eqB (e.at 151 _ rfl rfl) rfl
  obtain ⟨m1, m2⟩ := J6_main hj 7 (by decide)
  have h15 : τ.bval 15 = decide (0 ≤ τ.ival 14) := hj.2.2.2.1
  have a16 := u8_range (hin 16 .u8 (by decide) rfl)
  have eb : τ.bval 154 = !bitI (τ.ival 16) 7 := by rw [e154, e153, e152]; exact bit0 rfl a16.1
  clear e154
  have pw : prAt (τ.ival 5) (τ.ival 6) (τ.ival 7) (τ.ival 8) (τ.ival 9) (τ.ival 10) (τ.ival 11) (τ.ival 12) ((7 : Nat) : Int) = τ.ival 12 := rfl
  rw [pw] at m1 m2
  have lf0 : τ.ival 17 = 7 → ikIQ W0 Z X k τ .normal ikS6 (asgS τ ((ikLi (.int .i64 8)) ++ ikA5)) := fun h17 =>
    leafI e ht hin hj (insOk_asg e hin 12 (by kernel_rfl)) rfl rfl rfl rfl rfl rfl rfl rfl rfl rfl rfl rfl rfl rfl rfl rfl rfl rfl (by rw [h17]; rfl) (by omega)
  exact ⟨⟨⟨(fun hF => m1 (fun hh => by have h1 := hF.2.2.1; replace h1 : τ.bval 154 = true := h1; rw [eb, hh.1] at h1; cases h1) ⟨by have h2 := hF.2.1; replace h2 : τ.bval 15 = true := h2; rw [h15, decide_eq_true_eq] at h2; exact h2, by have h3 := hF.1; replace h3 : τ.bval 156 = true := h3; rw [e156, beq_iff_eq] at h3; exact h3⟩), (fun hF => lf0 (by simp only [Holds, Fact.holds] at hF; simp only [hF]))⟩, (fun hF => lf0 (by simp only [Holds, Fact.holds] at hF; simp only [hF]))⟩, ⟨⟨⟨(fun hF => m1 (fun hh => by have h1 := hF.2.2.1; replace h1 : τ.bval 155 = true := h1; rw [e155, decide_eq_true_eq] at h1; have := hh.2; omega) ⟨by have h2 := hF.2.1; replace h2 : τ.bval 15 = true := h2; rw [h15, decide_eq_true_eq] at h2; exact h2, by have h3 := hF.1; replace h3 : τ.bval 156 = true := h3; rw [e156, beq_iff_eq] at h3; exact h3⟩), (fun hF => lf0 (by simp only [Holds, Fact.holds] at hF; simp only [hF]))⟩, (fun hF => lf0 (by simp only [Holds, Fact.holds] at hF; simp only [hF]))⟩, ⟨(fun hF => by have h1 : τ.bval 154 = false := hF.2.2.1; have h2 : τ.bval 155 = false := hF.2.1; rw [eb] at h1; rw [e155, decide_eq_false_iff_not] at h2; obtain ⟨u, hu, hv, hc⟩ := m2 ⟨by simpa using h1, by omega⟩; have h3 : τ.bval 23 = true := hF.1; rw [e23, h15, Bool.not_eq_true', decide_eq_false_iff_not] at h3; omega), ⟨⟨(fun hF => by have h1 : τ.bval 154 = false := hF.2.2.2.2.1; have h2 : τ.bval 155 = false := hF.2.2.2.1; rw [eb] at h1; rw [e155, decide_eq_false_iff_not] at h2; obtain ⟨u, hu, hv, hc⟩ := m2 ⟨by simpa using h1, by omega⟩; have h4 : τ.ival 14 = 0 := hF.2.1; have h3 : τ.bval 157 = true := hF.1; rw [e157, decide_eq_true_eq] at h3; obtain rfl : u = 0 := (by omega); replace hc : τ.ival 12 < τ.ival 5 ∨ (τ.ival 12 = τ.ival 5 ∧ 0 ≤ 7) := hc; omega), (fun hF => lf0 (by simp only [Holds, Fact.holds] at hF; simp only [hF]))⟩, ⟨⟨(fun hF => by have h1 : τ.bval 154 = false := hF.2.2.2.2.2.1; have h2 : τ.bval 155 = false := hF.2.2.2.2.1; rw [eb] at h1; rw [e155, decide_eq_false_iff_not] at h2; obtain ⟨u, hu, hv, hc⟩ := m2 ⟨by simpa using h1, by omega⟩; have h4 : τ.ival 14 = 1 := hF.2.1; have h3 : τ.bval 159 = true := hF.1; rw [e159, decide_eq_true_eq] at h3; obtain rfl : u = 1 := (by omega); replace hc : τ.ival 12 < τ.ival 6 ∨ (τ.ival 12 = τ.ival 6 ∧ 1 ≤ 7) := hc; omega), (fun hF => lf0 (by simp only [Holds, Fact.holds] at hF; simp only [hF]))⟩, ⟨⟨(fun hF => by have h1 : τ.bval 154 = false := hF.2.2.2.2.2.2.1; have h2 : τ.bval 155 = false := hF.2.2.2.2.2.1; rw [eb] at h1; rw [e155, decide_eq_false_iff_not] at h2; obtain ⟨u, hu, hv, hc⟩ := m2 ⟨by simpa using h1, by omega⟩; have h4 : τ.ival 14 = 2 := hF.2.1; have h3 : τ.bval 161 = true := hF.1; rw [e161, decide_eq_true_eq] at h3; obtain rfl : u = 2 := (by omega); replace hc : τ.ival 12 < τ.ival 7 ∨ (τ.ival 12 = τ.ival 7 ∧ 2 ≤ 7) := hc; omega), (fun hF => lf0 (by simp only [Holds, Fact.holds] at hF; simp only [hF]))⟩, ⟨⟨(fun hF => by have h1 : τ.bval 154 = false := hF.2.2.2.2.2.2.2.1; have h2 : τ.bval 155 = false := hF.2.2.2.2.2.2.1; rw [eb] at h1; rw [e155, decide_eq_false_iff_not] at h2; obtain ⟨u, hu, hv, hc⟩ := m2 ⟨by simpa using h1, by omega⟩; have h4 : τ.ival 14 = 3 := hF.2.1; have h3 : τ.bval 163 = true := hF.1; rw [e163, decide_eq_true_eq] at h3; obtain rfl : u = 3 := (by omega); replace hc : τ.ival 12 < τ.ival 8 ∨ (τ.ival 12 = τ.ival 8 ∧ 3 ≤ 7) := hc; omega), (fun hF => lf0 (by simp only [Holds, Fact.holds] at hF; simp only [hF]))⟩, ⟨⟨(fun hF => by have h1 : τ.bval 154 = false := hF.2.2.2.2.2.2.2.2.1; have h2 : τ.bval 155 = false := hF.2.2.2.2.2.2.2.1; rw [eb] at h1; rw [e155, decide_eq_false_iff_not] at h2; obtain ⟨u, hu, hv, hc⟩ := m2 ⟨by simpa using h1, by omega⟩; have h4 : τ.ival 14 = 4 := hF.2.1; have h3 : τ.bval 165 = true := hF.1; rw [e165, decide_eq_true_eq] at h3; obtain rfl : u = 4 := (by omega); replace hc : τ.ival 12 < τ.ival 9 ∨ (τ.ival 12 = τ.ival 9 ∧ 4 ≤ 7) := hc; omega), (fun hF => lf0 (by simp only [Holds, Fact.holds] at hF; simp only [hF]))⟩, ⟨⟨(fun hF => by have h1 : τ.bval 154 = false := hF.2.2.2.2.2.2.2.2.2.1; have h2 : τ.bval 155 = false := hF.2.2.2.2.2.2.2.2.1; rw [eb] at h1; rw [e155, decide_eq_false_iff_not] at h2; obtain ⟨u, hu, hv, hc⟩ := m2 ⟨by simpa using h1, by omega⟩; have h4 : τ.ival 14 = 5 := hF.2.1; have h3 : τ.bval 167 = true := hF.1; rw [e167, decide_eq_true_eq] at h3; obtain rfl : u = 5 := (by omega); replace hc : τ.ival 12 < τ.ival 10 ∨ (τ.ival 12 = τ.ival 10 ∧ 5 ≤ 7) := hc; omega), (fun hF => lf0 (by simp only [Holds, Fact.holds] at hF; simp only [hF]))⟩, ⟨⟨(fun hF => by have h1 : τ.bval 154 = false := hF.2.2.2.2.2.2.2.2.2.2.1; have h2 : τ.bval 155 = false := hF.2.2.2.2.2.2.2.2.2.1; rw [eb] at h1; rw [e155, decide_eq_false_iff_not] at h2; obtain ⟨u, hu, hv, hc⟩ := m2 ⟨by simpa using h1, by omega⟩; have h4 : τ.ival 14 = 6 := hF.2.1; have h3 : τ.bval 169 = true := hF.1; rw [e169, decide_eq_true_eq] at h3; obtain rfl : u = 6 := (by omega); replace hc : τ.ival 12 < τ.ival 11 ∨ (τ.ival 12 = τ.ival 11 ∧ 6 ≤ 7) := hc; omega), (fun hF => lf0 (by simp only [Holds, Fact.holds] at hF; simp only [hF]))⟩, ⟨(fun hF => lf0 (by simp only [Holds, Fact.holds] at hF; simp only [hF])), (fun hF => by have h1 : τ.bval 154 = false := hF.2.2.2.2.2.2.2.2.2.2.1; have h2 : τ.bval 155 = false := hF.2.2.2.2.2.2.2.2.2.1; rw [eb] at h1; rw [e155, decide_eq_false_iff_not] at h2; obtain ⟨u, hu, hv, hc⟩ := m2 ⟨by simpa using h1, by omega⟩; simp only [Holds, Fact.holds] at hF; omega)⟩⟩⟩⟩⟩⟩⟩⟩⟩⟩⟩

set_option maxRecDepth 100000 in
theorem ikI_ob {W0 : World} {Z : Exit → Act → World → Prop} {X : Fz} {k : Nat} (τ : Sig) (e : Eqs τ 18 ikIG) (ht : τ.tab = (tabOf ckFs)) (hin : InsOk τ 18 ikK6) (hj : J6 X k τ) : segsW τ (ikIQ W0 Z X k τ) ikIW [] := by
  refine ⟨ikI_0 τ e ht hin hj, ⟨ikI_1 τ e ht hin hj, ⟨ikI_2 τ e ht hin hj, ⟨ikI_3 τ e ht hin hj, ⟨ikI_4 τ e ht hin hj, ⟨ikI_5 τ e ht hin hj, ⟨ikI_6 τ e ht hin hj, ⟨ikI_7 τ e ht hin hj, ⟨fun hF => ?_, fun hF => ?_⟩⟩⟩⟩⟩⟩⟩⟩⟩
  · have hr := best_range (τ.ival 2) (τ.ival 3) (τ.ival 5) (τ.ival 6) (τ.ival 7) (τ.ival 8) (τ.ival 9) (τ.ival 10) (τ.ival 11) (τ.ival 12) (τ.ival 13) (τ.ival 4)
    rw [← hj.2.2.1] at hr
    exact Or.inr (Or.inl ⟨rfl, rfl, insOk_asg e hin 12 (by kernel_rfl), ⟨JB_of (σ := τ) rfl rfl rfl rfl rfl rfl rfl rfl rfl rfl rfl hj.1, hr, hj.2.2.2.1⟩, ht⟩)
  · simp only [Holds, Fact.holds] at hF
    have := hj.2.2.2.2.2
    omega

set_option maxRecDepth 100000 in
theorem ikJ_ob {W0 : World} {Z : Exit → Act → World → Prop} {X : Fz} {k : Nat} (τ : Sig) (e : Eqs τ 15 ikJG) (ht : τ.tab = (tabOf ckFs)) (hin : InsOk τ 15 ikK7) (hj : J7 X k τ) : segsW τ (fun x s σ2 => (x = .normal ∧ s = ikS1 ∧ InsOk σ2 13 ikK1 ∧ JB X k σ2 ∧ σ2.tab = (tabOf ckFs)) ∨ (x ≠ .normal ∧ EndZ (tabOf ckFs) 245 W0 Z x s σ2)) ikJW [] := by
  obtain ⟨_, ⟨r1, r2⟩, h14⟩ := id hj
  have n1 : 0 ≤ τ.ival 13 → τ.bval 14 = false → False := fun h0 h => by rw [h14, decide_eq_false_iff_not] at h; exact h h0
  have n2 : τ.bval 14 = true → 0 ≤ τ.ival 13 := fun h => by rw [h14, decide_eq_true_eq] at h; exact h
  refine ⟨⟨fun hF => .inl ⟨rfl, rfl, insOk_asg e hin 12 (by kernel_rfl), JB_of (σ := τ) rfl rfl rfl rfl rfl rfl rfl rfl rfl rfl rfl hj.1, ht⟩, fun hF => n1 (by simp only [Holds, Fact.holds] at hF; omega) hF.1⟩, ⟨⟨fun hF => .inl ⟨rfl, rfl, insOk_asg e hin 12 (by kernel_rfl), JB_of (σ := τ) rfl rfl rfl rfl rfl rfl rfl rfl rfl rfl rfl hj.1, ht⟩, fun hF => n1 (by simp only [Holds, Fact.holds] at hF; omega) hF.1⟩, ⟨⟨fun hF => .inl ⟨rfl, rfl, insOk_asg e hin 12 (by kernel_rfl), JB_of (σ := τ) rfl rfl rfl rfl rfl rfl rfl rfl rfl rfl rfl hj.1, ht⟩, fun hF => n1 (by simp only [Holds, Fact.holds] at hF; omega) hF.1⟩, ⟨⟨fun hF => .inl ⟨rfl, rfl, insOk_asg e hin 12 (by kernel_rfl), JB_of (σ := τ) rfl rfl rfl rfl rfl rfl rfl rfl rfl rfl rfl hj.1, ht⟩, fun hF => n1 (by simp only [Holds, Fact.holds] at hF; omega) hF.1⟩, ⟨⟨fun hF => .inl ⟨rfl, rfl, insOk_asg e hin 12 (by kernel_rfl), JB_of (σ := τ) rfl rfl rfl rfl rfl rfl rfl rfl rfl rfl rfl hj.1, ht⟩, fun hF => n1 (by simp only [Holds, Fact.holds] at hF; omega) hF.1⟩, ⟨⟨fun hF => .inl ⟨rfl, rfl, insOk_asg e hin 12 (by kernel_rfl), JB_of (σ := τ) rfl rfl rfl rfl rfl rfl rfl rfl rfl rfl rfl hj.1, ht⟩, fun hF => n1 (by simp only [Holds, Fact.holds] at hF; omega) hF.1⟩, ⟨⟨fun hF => .inl ⟨rfl, rfl, insOk_asg e hin 12 (by kernel_rfl), JB_of (σ := τ) rfl rfl rfl rfl rfl rfl rfl rfl rfl rfl rfl hj.1, ht⟩, fun hF => n1 (by simp only [Holds, Fact.holds] at hF; omega) hF.1⟩, ⟨⟨fun hF => .inl ⟨rfl, rfl, insOk_asg e hin 12 (by kernel_rfl), JB_of (σ := τ) rfl rfl rfl rfl rfl rfl rfl rfl rfl rfl rfl hj.1, ht⟩, fun hF => n1 (by simp only [Holds, Fact.holds] at hF; omega) hF.1⟩, ⟨⟨fun hF => ?_, fun hF => ?_⟩, fun hF => .inl ⟨rfl, rfl, insOk_asg e hin 12 (by kernel_rfl), JB_of (σ := τ) rfl rfl rfl rfl rfl rfl rfl rfl rfl rfl rfl hj.1, ht⟩⟩⟩⟩⟩⟩⟩⟩⟩⟩
  · simp only [Holds, Fact.holds] at hF
    have := n2 (by simp only [hF])
    omega
  · simp only [Holds, Fact.holds] at hF
    have := n2 (by simp only [hF])
    omega

set_option maxRecDepth 100000 in
theorem ikK_ob {W0 : World} {Z : Exit → Act → World → Prop} {X : Fz} {k : Nat} (τ : Sig) (e : Eqs τ 13 ikKG) (ht : τ.tab = (tabOf ckFs)) (hin : InsOk τ 13 ikK1) (hj : JB X k τ) : segsW τ (fun x s σ2 => (x = .normal ∧ s = ikS1 ∧ InsOk σ2 13 ikK1 ∧ JB X k σ2 ∧ σ2.tab = (tabOf ckFs)) ∨ (x ≠ .normal ∧ EndZ (tabOf ckFs) 245 W0 Z x s σ2)) ikKW [] := by
  exact fun hF => .inl ⟨rfl, rfl, insOk_asg e hin 12 (by kernel_rfl), JB_of (σ := τ) rfl rfl rfl rfl rfl rfl rfl rfl rfl rfl rfl hj, ht⟩

def pop (f : Nat → Bool) : Int := (bif f 0 then 1 else 0) + (bif f 1 then 1 else 0) + (bif f 2 then 1 else 0) + (bif f 3 then 1 else 0) + (bif f 4 then 1 else 0) + (bif f 5 then 1 else 0) + (bif f 6 then 1 else 0) + (bif f 7 then 1 else 0)
theorem pop_le (f : Nat → Bool) : pop f ≤ 8 := by
  unfold pop
  have h0 : (bif f 0 then (1 : Int) else 0) ≤ 1 := by cases f 0 <;> decide
  have h1 : (bif f 1 then (1 : Int) else 0) ≤ 1 := by cases f 1 <;> decide
  have h2 : (bif f 2 then (1 : Int) else 0) ≤ 1 := by cases f 2 <;> decide
  have h3 : (bif f 3 then (1 : Int) else 0) ≤ 1 := by cases f 3 <;> decide
  have h4 : (bif f 4 then (1 : Int) else 0) ≤ 1 := by cases f 4 <;> decide
  have h5 : (bif f 5 then (1 : Int) else 0) ≤ 1 := by cases f 5 <;> decide
  have h6 : (bif f 6 then (1 : Int) else 0) ≤ 1 := by cases f 6 <;> decide
  have h7 : (bif f 7 then (1 : Int) else 0) ≤ 1 := by cases f 7 <;> decide
  omega
def J8 (σ : Sig) : Prop := prOk 3 σ ∧ 0 ≤ σ.ival 0 ∧ σ.ival 0 + pop (bitI (σ.ival 2)) ≤ 8 ∧ ∀ u, u < 8 → bitI (σ.ival 2) u = true → 0 < σ.ival (3 + u) → σ.ival (3 + u) ≤ σ.ival 1
def J9 (σ : Sig) : Prop := ∀ u, u < 8 → bitI (σ.ival 0) u = true → σ.ival (1 + u) ≤ 0
def J10 (σ : Sig) : Prop := J9 σ ∧ 0 ≤ σ.ival 9 ∧ σ.ival 9 ≤ 8
theorem J8_agree (σ τ : Sig) (ag : Agree 11 σ τ) (h : J8 σ) : J8 τ := by
  refine ⟨prOk_agree (by decide) ag h.1, ?_⟩
  rw [← (ag.val 0 (by decide)).1, ← (ag.val 1 (by decide)).1, ← (ag.val 2 (by decide)).1]
  exact ⟨h.2.1, h.2.2.1, fun u hu h1 h2 => by rw [← (ag.val (3 + u) (by omega)).1] at h2 ⊢; exact h.2.2.2 u hu h1 h2⟩
theorem J9_agree {q : Nat} (hq : 9 ≤ q) (σ τ : Sig) (ag : Agree q σ τ) (h : J9 σ) : J9 τ := by
  unfold J9 at h ⊢
  rw [← (ag.val 0 (by omega)).1]
  exact fun u hu h1 => by rw [← (ag.val (1 + u) (by omega)).1]; exact h u hu h1
theorem J10_agree (σ τ : Sig) (ag : Agree 10 σ τ) (h : J10 σ) : J10 τ := ⟨J9_agree (by decide) σ τ ag h.1, by rw [← (ag.val 9 (by decide)).1]; exact h.2⟩
theorem J9_of {σ τ : Sig} {j : Nat} (hj : ∀ u, u < 8 → bitI (σ.ival (j - 1)) u = true → σ.ival (j + u) ≤ 0) (h : τ.ival 0 = σ.ival (j - 1)) (h0 : τ.ival (1 + 0) = σ.ival (j + 0)) (h1 : τ.ival (1 + 1) = σ.ival (j + 1)) (h2 : τ.ival (1 + 2) = σ.ival (j + 2)) (h3 : τ.ival (1 + 3) = σ.ival (j + 3)) (h4 : τ.ival (1 + 4) = σ.ival (j + 4)) (h5 : τ.ival (1 + 5) = σ.ival (j + 5)) (h6 : τ.ival (1 + 6) = σ.ival (j + 6)) (h7 : τ.ival (1 + 7) = σ.ival (j + 7)) : J9 τ := by
  intro u hu hb
  rw [h] at hb
  match u, hu, hb with
  | 0, _, hb => rw [h0]; exact hj 0 (by decide) hb
  | 1, _, hb => rw [h1]; exact hj 1 (by decide) hb
  | 2, _, hb => rw [h2]; exact hj 2 (by decide) hb
  | 3, _, hb => rw [h3]; exact hj 3 (by decide) hb
  | 4, _, hb => rw [h4]; exact hj 4 (by decide) hb
  | 5, _, hb => rw [h5]; exact hj 5 (by decide) hb
  | 6, _, hb => rw [h6]; exact hj 6 (by decide) hb
  | 7, _, hb => rw [h7]; exact hj 7 (by decide) hb
  | u + 8, hu, _ => exact absurd hu (by omega)
set_option maxRecDepth 100000 in
theorem ikM_ob {W0 : World} {Z : Exit → Act → World → Prop} {X : Fz} {k : Nat} (τ : Sig) (e : Eqs τ 10 ikMG) (ht : τ.tab = (tabOf ckFs)) (hin : InsOk τ 10 ikKdX) (hj : prOk 2 τ) : segsW τ (fun x s σ2 => (x = .normal ∧ s = ikS8 ∧ InsOk σ2 11 ikK8 ∧ J8 σ2 ∧ σ2.tab = (tabOf ckFs)) ∨ (x ≠ .normal ∧ EndZ (tabOf ckFs) 245 W0 Z x s σ2)) ikMW [] := by
  refine fun hF => .inl ⟨rfl, rfl, insOk_asg e hin 12 (by kernel_rfl), ⟨prOk_of (σ := τ) (j := 2) rfl rfl rfl rfl rfl rfl rfl rfl hj, by show (0 : Int) ≤ 0; decide, ?_, ?_⟩, ht⟩
  · show (0 : Int) + pop (bitI (τ.ival 1)) ≤ 8
    have := pop_le (bitI (τ.ival 1)); omega
  · intro u hu _ _
    have := prOk_of (i := 3) (j := 2) (σ := τ) (τ := asgS τ [(3, .symi .i64 2), (4, .symi .i64 3), (5, .symi .i64 4), (6, .symi .i64 5), (7, .symi .i64 6), (8, .symi .i64 7), (9, .symi .i64 8), (10, .symi .i64 9)]) rfl rfl rfl rfl rfl rfl rfl rfl hj u hu
    match u, hu, this with
    | 0, _, h => show τ.ival 2 ≤ 9; have h : 0 ≤ τ.ival 2 ∧ τ.ival 2 ≤ 7 := h; omega
    | 1, _, h => show τ.ival 3 ≤ 9; have h : 0 ≤ τ.ival 3 ∧ τ.ival 3 ≤ 7 := h; omega
    | 2, _, h => show τ.ival 4 ≤ 9; have h : 0 ≤ τ.ival 4 ∧ τ.ival 4 ≤ 7 := h; omega
    | 3, _, h => show τ.ival 5 ≤ 9; have h : 0 ≤ τ.ival 5 ∧ τ.ival 5 ≤ 7 := h; omega
    | 4, _, h => show τ.ival 6 ≤ 9; have h : 0 ≤ τ.ival 6 ∧ τ.ival 6 ≤ 7 := h; omega
    | 5, _, h => show τ.ival 7 ≤ 9; have h : 0 ≤ τ.ival 7 ∧ τ.ival 7 ≤ 7 := h; omega
    | 6, _, h => show τ.ival 8 ≤ 9; have h : 0 ≤ τ.ival 8 ∧ τ.ival 8 ≤ 7 := h; omega
    | 7, _, h => show τ.ival 9 ≤ 9; have h : 0 ≤ τ.ival 9 ∧ τ.ival 9 ≤ 7 := h; omega
    | u + 8, hu, _ => exact absurd hu (by omega)

def ikNQ (W0 : World) (Z : Exit → Act → World → Prop) (τ : Sig) : SEx → Shape → Sig → Prop := fun x s σ2 => (x = .normal ∧ s = ikS8 ∧ InsOk σ2 11 ikK8 ∧ J8 σ2 ∧ σ2.tab = (tabOf ckFs) ∧ (fun σ : Sig => (9 - σ.ival 0).toNat) σ2 < (fun σ : Sig => (9 - σ.ival 0).toNat) τ) ∨ (x = .exit 7 ∧ s = ikS9 ∧ InsOk σ2 9 ikK9 ∧ J9 σ2 ∧ σ2.tab = (tabOf ckFs)) ∨ (x = .ret ∧ EndZ (tabOf ckFs) 245 W0 Z x s σ2)
theorem b255 : ∀ w, w < 8 → bitI 255 w = true := by decide
theorem b0 : ∀ w, w < 8 → bitI 0 w = false := by decide
theorem may255 {left p : Int} {v : Nat} (hv : v < 8) : mayI 255 left 0 0 p v = true ↔ bitI left v = true ∧ 0 < p := by
  rw [mayI_iff (by decide), b255 v hv, b0 v hv]; simp
theorem ikN_main (τ : Sig) (e : Eqs τ 11 ikNG) (ht : τ.tab = (tabOf ckFs)) (hj : J8 τ) : (-1 ≤ τ.ival 12 ∧ τ.ival 12 ≤ 7) ∧ τ.bval 13 = decide (0 ≤ τ.ival 12) ∧ ((τ.ival 12 = -1 ∧ ∀ u, u < 8 → bitI (τ.ival 2) u = true → τ.ival (3 + u) ≤ 0) ∨
    ∃ v : Nat, v < 8 ∧ τ.ival 12 = v ∧ bitI (τ.ival 2) v = true ∧ 0 < τ.ival (3 + v) ∧ ∀ u, u < 8 → bitI (τ.ival 2) u = true → 0 < τ.ival (3 + u) → τ.ival (3 + u) ≤ τ.ival (3 + v)) := by
  have e12 : τ.ival 12 = IntKind.i64.wrap (τ.tab 0 [255, τ.ival 2, τ.ival 3, τ.ival 4, τ.ival 5, τ.ival 6, τ.ival 7, τ.ival 8, τ.ival 9, τ.ival 10, 0, 0, 0]) := eqI (e.at 1 _ rfl rfl) rfl
  have e13 : τ.bval 13 = (!(τ.tab 1 [255, τ.ival 2, τ.ival 3, τ.ival 4, τ.ival 5, τ.ival 6, τ.ival 7, τ.ival 8, τ.ival 9, τ.ival 10, 0, 0, 0] == 0)) := eqB (e.at 2 _ rfl rfl) rfl
  rw [ht] at e12 e13
  rw [tab0, choose0] at e12
  rw [tab1, choose0] at e13
  have h12 : τ.ival 12 = best8 255 (τ.ival 2) (τ.ival 3) (τ.ival 4) (τ.ival 5) (τ.ival 6) (τ.ival 7) (τ.ival 8) (τ.ival 9) (τ.ival 10) 0 0 8 := by rw [e12]; exact wrap_best _ _ _ _ _ _ _ _ _ _ _ _
  have hr := best_range 255 (τ.ival 2) (τ.ival 3) (τ.ival 4) (τ.ival 5) (τ.ival 6) (τ.ival 7) (τ.ival 8) (τ.ival 9) (τ.ival 10) 0 0
  have hc := best_cases 255 (τ.ival 2) (τ.ival 3) (τ.ival 4) (τ.ival 5) (τ.ival 6) (τ.ival 7) (τ.ival 8) (τ.ival 9) (τ.ival 10) 0 0
  have pr : ∀ u : Nat, u < 8 → prAt (τ.ival 3) (τ.ival 4) (τ.ival 5) (τ.ival 6) (τ.ival 7) (τ.ival 8) (τ.ival 9) (τ.ival 10) u = τ.ival (3 + u) := fun u hu => by
    match u, hu with
    | 0, _ => rfl
    | 1, _ => rfl
    | 2, _ => rfl
    | 3, _ => rfl
    | 4, _ => rfl
    | 5, _ => rfl
    | 6, _ => rfl
    | 7, _ => rfl
    | u + 8, hu => exact absurd hu (by omega)
  rw [← h12] at hr hc
  refine ⟨hr, by rw [e13, h12]; exact is_best _, ?_⟩
  rcases hc with ⟨e1, h⟩ | ⟨v, hv, e1, h1, h2⟩
  · refine .inl ⟨e1, fun u hu hb => ?_⟩
    have := h u hu
    replace this : mayI 255 (τ.ival 2) 0 0 (prAt (τ.ival 3) (τ.ival 4) (τ.ival 5) (τ.ival 6) (τ.ival 7) (τ.ival 8) (τ.ival 9) (τ.ival 10) u) u = false := this
    rw [← Bool.not_eq_true, may255 hu, pr u hu] at this
    by_cases hp : 0 < τ.ival (3 + u)
    · exact absurd ⟨hb, hp⟩ this
    · omega
  · replace h1 : mayI 255 (τ.ival 2) 0 0 (prAt (τ.ival 3) (τ.ival 4) (τ.ival 5) (τ.ival 6) (τ.ival 7) (τ.ival 8) (τ.ival 9) (τ.ival 10) v) v = true := h1
    rw [may255 hv, pr v hv] at h1
    refine .inr ⟨v, hv, e1, h1.1, h1.2, fun u hu hb hp => ?_⟩
    have := h2 u hu (by show mayI 255 (τ.ival 2) 0 0 (prAt (τ.ival 3) (τ.ival 4) (τ.ival 5) (τ.ival 6) (τ.ival 7) (τ.ival 8) (τ.ival 9) (τ.ival 10) u) u = true; rw [may255 hu, pr u hu]; exact ⟨hb, hp⟩)
    rw [pr u hu, pr v hv] at this
    omega
theorem clr0 (x : Int) (hx : 0 ≤ x ∧ x ≤ 255) : ∀ u, u < 8 → bitI (IntKind.u8.wrap ((BitVec.ofInt 8 x &&& ~~~ BitVec.ofInt 8 1 : BitVec 8).toNat : Int)) u = (bitI x u && !(Nat.beq u 0)) := by
  intro u hu
  rw [bitI_bv, bitI_in hx.1 hx.2, BitVec.getLsbD_and, BitVec.getLsbD_not]
  have : (decide (u < 8) && !(BitVec.ofInt 8 1).getLsbD u) = !(Nat.beq u 0) := by
    match u, hu with
    | 0, _ => decide
    | 1, _ => decide
    | 2, _ => decide
    | 3, _ => decide
    | 4, _ => decide
    | 5, _ => decide
    | 6, _ => decide
    | 7, _ => decide
    | u + 8, hu => exact absurd hu (by omega)
  rw [this]
def ikN_s0 : Sv := .node 11 (.node 14 (.dead) (.node 17 (.dead) (.node 18 (.dead) (.leaf .normal ikS8 ikFf [(1, .symi .i64 3), (2, .symi .u8 19), (0, .symi .i64 20), (3, .symi .i64 3), (4, .symi .i64 4), (5, .symi .i64 5), (6, .symi .i64 6), (7, .symi .i64 7), (8, .symi .i64 8), (9, .symi .i64 9), (10, .symi .i64 10), (2, .symi .u8 19)] [])))) (.dead)
set_option maxRecDepth 100000 in
theorem ikN_0 {W0 : World} {Z : Exit → Act → World → Prop} (τ : Sig) (e : Eqs τ 11 ikNG) (ht : τ.tab = (tabOf ckFs)) (hin : InsOk τ 11 ikK8) (hj : J8 τ) : segs τ (ikNQ W0 Z τ) ikN_s0 [.isn 12 0] := by
  have e11 : τ.bval 11 = decide (τ.ival 0 < 9) := eqB (e.at 0 _ rfl rfl) rfl
  have e14 : τ.bval 14 = (!τ.bval 13) := eqB (e.at 3 _ rfl rfl) rfl
  have e15 : τ.ival 15 = ((τ.ival 2 : Int).fdiv (2 ^ (min (0 : Int).toNat IntKind.u8.bits))) := eqI (e.at 4 _ rfl rfl) rfl
  have e16 : τ.ival 16 = ((τ.ival 15 : Int).tmod 2) := eqI (e.at 5 _ rfl rfl) rfl
  have e17 : τ.bval 17 = (τ.ival 16 == 0) := eqB (e.at 6 _ rfl rfl) rfl
  have e18 : τ.bval 18 = decide (τ.ival 3 > τ.ival 1) := eqB (e.at 7 _ rfl rfl) rfl
  have e19 : τ.ival 19 = IntKind.u8.wrap (BitVec.ofInt IntKind.u8.bits (τ.ival 2) &&& ~~~BitVec.ofInt IntKind.u8.bits (1)).toNat := eqI (e.at 8 _ rfl rfl) rfl
  have e20 : τ.ival 20 = IntKind.i64.wrap (τ.ival 0 + 1) := eqI (e.at 9 _ rfl rfl) rfl
  obtain ⟨hr, h13, hc⟩ := ikN_main τ e ht hj
  obtain ⟨g1, g2, g3, g4⟩ := id hj
  have a2 := u8_range (hin 2 .u8 (by decide) rfl)
  have pn : 0 ≤ pop (bitI (τ.ival 2)) := by
    unfold pop
    have q0 : 0 ≤ (bif bitI (τ.ival 2) 0 then (1 : Int) else 0) := by cases bitI (τ.ival 2) 0 <;> decide
    have q1 : 0 ≤ (bif bitI (τ.ival 2) 1 then (1 : Int) else 0) := by cases bitI (τ.ival 2) 1 <;> decide
    have q2 : 0 ≤ (bif bitI (τ.ival 2) 2 then (1 : Int) else 0) := by cases bitI (τ.ival 2) 2 <;> decide
    have q3 : 0 ≤ (bif bitI (τ.ival 2) 3 then (1 : Int) else 0) := by cases bitI (τ.ival 2) 3 <;> decide
    have q4 : 0 ≤ (bif bitI (τ.ival 2) 4 then (1 : Int) else 0) := by cases bitI (τ.ival 2) 4 <;> decide
    have q5 : 0 ≤ (bif bitI (τ.ival 2) 5 then (1 : Int) else 0) := by cases bitI (τ.ival 2) 5 <;> decide
    have q6 : 0 ≤ (bif bitI (τ.ival 2) 6 then (1 : Int) else 0) := by cases bitI (τ.ival 2) 6 <;> decide
    have q7 : 0 ≤ (bif bitI (τ.ival 2) 7 then (1 : Int) else 0) := by cases bitI (τ.ival 2) 7 <;> decide
    omega
  have hv : τ.ival 12 = 0 → bitI (τ.ival 2) 0 = true ∧ 0 < τ.ival 3 ∧ ∀ u, u < 8 → bitI (τ.ival 2) u = true → 0 < τ.ival (3 + u) → τ.ival (3 + u) ≤ τ.ival 3 := fun h => by
    rcases hc with ⟨e1, _⟩ | ⟨v, hv, e1, h1⟩
    · omega
    · obtain rfl : v = 0 := by omega
      exact h1
  have ebit : τ.bval 17 = !bitI (τ.ival 2) 0 := by rw [e17, e16, e15]; exact bit0 rfl a2.1
  refine ⟨⟨fun hF => ?_, ⟨fun hF => ?_, ⟨fun hF => ?_, fun hF => ?_⟩⟩⟩, fun hF => ?_⟩
  · have h : τ.bval 14 = true := hF.1
    have h2 : τ.ival 12 = 0 := hF.2.2.1
    rw [e14, h13, h2] at h
    cases h
  · have h : τ.bval 17 = true := hF.1
    have h2 : τ.ival 12 = 0 := hF.2.2.2.1
    rw [ebit, (hv h2).1] at h
    cases h
  · have h : τ.bval 18 = true := hF.1
    have h2 : τ.ival 12 = 0 := hF.2.2.2.2.1
    rw [e18, decide_eq_true_eq] at h
    have := g4 0 (by decide) (hv h2).1 (hv h2).2.1
    replace this : τ.ival 3 ≤ τ.ival 1 := this
    omega
  · have h2 : τ.ival 12 = 0 := hF.2.2.2.2.1
    obtain ⟨b1, b2, b3⟩ := hv h2
    have bl : ∀ u, u < 8 → bitI (τ.ival 19) u = (bitI (τ.ival 2) u && !(Nat.beq u 0)) := fun u hu => by rw [e19]; exact clr0 _ a2 u hu
    have pp : pop (bitI (τ.ival 19)) + 1 = pop (bitI (τ.ival 2)) := by
      unfold pop
      rw [bl 0 (by decide), bl 1 (by decide), bl 2 (by decide), bl 3 (by decide), bl 4 (by decide), bl 5 (by decide), bl 6 (by decide), bl 7 (by decide)]
      simp only [show ∀ b : Bool, (b && !Nat.beq 0 0) = false from fun b => by cases b <;> rfl, show ∀ b : Bool, (b && !Nat.beq 1 0) = b from fun b => by cases b <;> rfl, show ∀ b : Bool, (b && !Nat.beq 2 0) = b from fun b => by cases b <;> rfl, show ∀ b : Bool, (b && !Nat.beq 3 0) = b from fun b => by cases b <;> rfl, show ∀ b : Bool, (b && !Nat.beq 4 0) = b from fun b => by cases b <;> rfl, show ∀ b : Bool, (b && !Nat.beq 5 0) = b from fun b => by cases b <;> rfl, show ∀ b : Bool, (b && !Nat.beq 6 0) = b from fun b => by cases b <;> rfl, show ∀ b : Bool, (b && !Nat.beq 7 0) = b from fun b => by cases b <;> rfl, b1, cond_true, cond_false]
      omega
    have ei : τ.ival 20 = τ.ival 0 + 1 := by rw [e20]; exact w64 (by omega) (by omega)
    refine Or.inl ⟨rfl, rfl, insOk_asg e hin 12 (by kernel_rfl), ⟨prOk_of (σ := τ) (j := 3) rfl rfl rfl rfl rfl rfl rfl rfl g1, ?_, ?_, ?_⟩, ht, ?_⟩
    · show 0 ≤ τ.ival 20; omega
    · show τ.ival 20 + pop (bitI (τ.ival 19)) ≤ 8; omega
    · intro u hu hb hp
      replace hb : bitI (τ.ival 19) u = true := hb
      rw [bl u hu, Bool.and_eq_true] at hb
      match u, hu, hb, hp with
      | 0, _, hb, hp => exact b3 0 (by decide) hb.1 hp
      | 1, _, hb, hp => exact b3 1 (by decide) hb.1 hp
      | 2, _, hb, hp => exact b3 2 (by decide) hb.1 hp
      | 3, _, hb, hp => exact b3 3 (by decide) hb.1 hp
      | 4, _, hb, hp => exact b3 4 (by decide) hb.1 hp
      | 5, _, hb, hp => exact b3 5 (by decide) hb.1 hp
      | 6, _, hb, hp => exact b3 6 (by decide) hb.1 hp
      | 7, _, hb, hp => exact b3 7 (by decide) hb.1 hp
      | u + 8, hu, _, _ => exact absurd hu (by omega)
    · show (9 - τ.ival 20).toNat < (9 - τ.ival 0).toNat; omega
  · have h : τ.bval 11 = false := hF.1
    rw [e11, decide_eq_false_iff_not] at h
    omega

theorem clr1 (x : Int) (hx : 0 ≤ x ∧ x ≤ 255) : ∀ u, u < 8 → bitI (IntKind.u8.wrap ((BitVec.ofInt 8 x &&& ~~~ BitVec.ofInt 8 2 : BitVec 8).toNat : Int)) u = (bitI x u && !(Nat.beq u 1)) := by
  intro u hu
  rw [bitI_bv, bitI_in hx.1 hx.2, BitVec.getLsbD_and, BitVec.getLsbD_not]
  have : (decide (u < 8) && !(BitVec.ofInt 8 2).getLsbD u) = !(Nat.beq u 1) := by
    match u, hu with
    | 0, _ => decide
    | 1, _ => decide
    | 2, _ => decide
    | 3, _ => decide
    | 4, _ => decide
    | 5, _ => decide
    | 6, _ => decide
    | 7, _ => decide
    | u + 8, hu => exact absurd hu (by omega)
  rw [this]
def ikN_s1 : Sv := .node 11 (.node 14 (.dead) (.node 23 (.dead) (.node 24 (.dead) (.leaf .normal ikS8 ikFf [(1, .symi .i64 4), (2, .symi .u8 25), (0, .symi .i64 20), (3, .symi .i64 3), (4, .symi .i64 4), (5, .symi .i64 5), (6, .symi .i64 6), (7, .symi .i64 7), (8, .symi .i64 8), (9, .symi .i64 9), (10, .symi .i64 10), (2, .symi .u8 25)] [])))) (.dead)
set_option maxRecDepth 100000 in
theorem ikN_1 {W0 : World} {Z : Exit → Act → World → Prop} (τ : Sig) (e : Eqs τ 11 ikNG) (ht : τ.tab = (tabOf ckFs)) (hin : InsOk τ 11 ikK8) (hj : J8 τ) : segs τ (ikNQ W0 Z τ) ikN_s1 [.isn 12 1, .non 12 0] := by
  have e11 : τ.bval 11 = decide (τ.ival 0 < 9) := eqB (e.at 0 _ rfl rfl) rfl
  have e14 : τ.bval 14 = (!τ.bval 13) := eqB (e.at 3 _ rfl rfl) rfl
  have e20 : τ.ival 20 = IntKind.i64.wrap (τ.ival 0 + 1) := eqI (e.at 9 _ rfl rfl) rfl
  have e21 : τ.ival 21 = ((τ.ival 2 : Int).fdiv (2 ^ (min (1 : Int).toNat IntKind.u8.bits))) := eqI (e.at 10 _ rfl rfl) rfl
  have e22 : τ.ival 22 = ((τ.ival 21 : Int).tmod 2) := eqI (e.at 11 _ rfl rfl) rfl
  have e23 : τ.bval 23 = (τ.ival 22 == 0) := eqB (e.at 12 _ rfl rfl) rfl
  have e24 : τ.bval 24 = decide (τ.ival 4 > τ.ival 1) := eqB (e.at 13 _ rfl rfl) rfl
  have e25 : τ.ival 25 = IntKind.u8.wrap (BitVec.ofInt IntKind.u8.bits (τ.ival 2) &&& ~~~BitVec.ofInt IntKind.u8.bits (2)).toNat := eqI (e.at 14 _ rfl rfl) rfl
  obtain ⟨hr, h13, hc⟩ := ikN_main τ e ht hj
  obtain ⟨g1, g2, g3, g4⟩ := id hj
  have a2 := u8_range (hin 2 .u8 (by decide) rfl)
  have pn : 0 ≤ pop (bitI (τ.ival 2)) := by
    unfold pop
    have q0 : 0 ≤ (bif bitI (τ.ival 2) 0 then (1 : Int) else 0) := by cases bitI (τ.ival 2) 0 <;> decide
    have q1 : 0 ≤ (bif bitI (τ.ival 2) 1 then (1 : Int) else 0) := by cases bitI (τ.ival 2) 1 <;> decide
    have q2 : 0 ≤ (bif bitI (τ.ival 2) 2 then (1 : Int) else 0) := by cases bitI (τ.ival 2) 2 <;> decide
    have q3 : 0 ≤ (bif bitI (τ.ival 2) 3 then (1 : Int) else 0) := by cases bitI (τ.ival 2) 3 <;> decide
    have q4 : 0 ≤ (bif bitI (τ.ival 2) 4 then (1 : Int) else 0) := by cases bitI (τ.ival 2) 4 <;> decide
    have q5 : 0 ≤ (bif bitI (τ.ival 2) 5 then (1 : Int) else 0) := by cases bitI (τ.ival 2) 5 <;> decide
    have q6 : 0 ≤ (bif bitI (τ.ival 2) 6 then (1 : Int) else 0) := by cases bitI (τ.ival 2) 6 <;> decide
    have q7 : 0 ≤ (bif bitI (τ.ival 2) 7 then (1 : Int) else 0) := by cases bitI (τ.ival 2) 7 <;> decide
    omega
  have hv : τ.ival 12 = 1 → bitI (τ.ival 2) 1 = true ∧ 0 < τ.ival 4 ∧ ∀ u, u < 8 → bitI (τ.ival 2) u = true → 0 < τ.ival (3 + u) → τ.ival (3 + u) ≤ τ.ival 4 := fun h => by
    rcases hc with ⟨e1, _⟩ | ⟨v, hv, e1, h1⟩
    · omega
    · obtain rfl : v = 1 := by omega
      exact h1
  have ebit : τ.bval 23 = !bitI (τ.ival 2) 1 := by rw [e23, e22, e21]; exact bit0 rfl a2.1
  refine ⟨⟨fun hF => ?_, ⟨fun hF => ?_, ⟨fun hF => ?_, fun hF => ?_⟩⟩⟩, fun hF => ?_⟩
  · have h : τ.bval 14 = true := hF.1
    have h2 : τ.ival 12 = 1 := hF.2.2.1
    rw [e14, h13, h2] at h
    cases h
  · have h : τ.bval 23 = true := hF.1
    have h2 : τ.ival 12 = 1 := hF.2.2.2.1
    rw [ebit, (hv h2).1] at h
    cases h
  · have h : τ.bval 24 = true := hF.1
    have h2 : τ.ival 12 = 1 := hF.2.2.2.2.1
    rw [e24, decide_eq_true_eq] at h
    have := g4 1 (by decide) (hv h2).1 (hv h2).2.1
    replace this : τ.ival 4 ≤ τ.ival 1 := this
    omega
  · have h2 : τ.ival 12 = 1 := hF.2.2.2.2.1
    obtain ⟨b1, b2, b3⟩ := hv h2
    have bl : ∀ u, u < 8 → bitI (τ.ival 25) u = (bitI (τ.ival 2) u && !(Nat.beq u 1)) := fun u hu => by rw [e25]; exact clr1 _ a2 u hu
    have pp : pop (bitI (τ.ival 25)) + 1 = pop (bitI (τ.ival 2)) := by
      unfold pop
      rw [bl 0 (by decide), bl 1 (by decide), bl 2 (by decide), bl 3 (by decide), bl 4 (by decide), bl 5 (by decide), bl 6 (by decide), bl 7 (by decide)]
      simp only [show ∀ b : Bool, (b && !Nat.beq 1 1) = false from fun b => by cases b <;> rfl, show ∀ b : Bool, (b && !Nat.beq 0 1) = b from fun b => by cases b <;> rfl, show ∀ b : Bool, (b && !Nat.beq 2 1) = b from fun b => by cases b <;> rfl, show ∀ b : Bool, (b && !Nat.beq 3 1) = b from fun b => by cases b <;> rfl, show ∀ b : Bool, (b && !Nat.beq 4 1) = b from fun b => by cases b <;> rfl, show ∀ b : Bool, (b && !Nat.beq 5 1) = b from fun b => by cases b <;> rfl, show ∀ b : Bool, (b && !Nat.beq 6 1) = b from fun b => by cases b <;> rfl, show ∀ b : Bool, (b && !Nat.beq 7 1) = b from fun b => by cases b <;> rfl, b1, cond_true, cond_false]
      omega
    have ei : τ.ival 20 = τ.ival 0 + 1 := by rw [e20]; exact w64 (by omega) (by omega)
    refine Or.inl ⟨rfl, rfl, insOk_asg e hin 12 (by kernel_rfl), ⟨prOk_of (σ := τ) (j := 3) rfl rfl rfl rfl rfl rfl rfl rfl g1, ?_, ?_, ?_⟩, ht, ?_⟩
    · show 0 ≤ τ.ival 20; omega
    · show τ.ival 20 + pop (bitI (τ.ival 25)) ≤ 8; omega
    · intro u hu hb hp
      replace hb : bitI (τ.ival 25) u = true := hb
      rw [bl u hu, Bool.and_eq_true] at hb
      match u, hu, hb, hp with
      | 0, _, hb, hp => exact b3 0 (by decide) hb.1 hp
      | 1, _, hb, hp => exact b3 1 (by decide) hb.1 hp
      | 2, _, hb, hp => exact b3 2 (by decide) hb.1 hp
      | 3, _, hb, hp => exact b3 3 (by decide) hb.1 hp
      | 4, _, hb, hp => exact b3 4 (by decide) hb.1 hp
      | 5, _, hb, hp => exact b3 5 (by decide) hb.1 hp
      | 6, _, hb, hp => exact b3 6 (by decide) hb.1 hp
      | 7, _, hb, hp => exact b3 7 (by decide) hb.1 hp
      | u + 8, hu, _, _ => exact absurd hu (by omega)
    · show (9 - τ.ival 20).toNat < (9 - τ.ival 0).toNat; omega
  · have h : τ.bval 11 = false := hF.1
    rw [e11, decide_eq_false_iff_not] at h
    omega

theorem clr2 (x : Int) (hx : 0 ≤ x ∧ x ≤ 255) : ∀ u, u < 8 → bitI (IntKind.u8.wrap ((BitVec.ofInt 8 x &&& ~~~ BitVec.ofInt 8 4 : BitVec 8).toNat : Int)) u = (bitI x u && !(Nat.beq u 2)) := by
  intro u hu
  rw [bitI_bv, bitI_in hx.1 hx.2, BitVec.getLsbD_and, BitVec.getLsbD_not]
  have : (decide (u < 8) && !(BitVec.ofInt 8 4).getLsbD u) = !(Nat.beq u 2) := by
    match u, hu with
    | 0, _ => decide
    | 1, _ => decide
    | 2, _ => decide
    | 3, _ => decide
    | 4, _ => decide
    | 5, _ => decide
    | 6, _ => decide
    | 7, _ => decide
    | u + 8, hu => exact absurd hu (by omega)
  rw [this]
def ikN_s2 : Sv := .node 11 (.node 14 (.dead) (.node 28 (.dead) (.node 29 (.dead) (.leaf .normal ikS8 ikFf [(1, .symi .i64 5), (2, .symi .u8 30), (0, .symi .i64 20), (3, .symi .i64 3), (4, .symi .i64 4), (5, .symi .i64 5), (6, .symi .i64 6), (7, .symi .i64 7), (8, .symi .i64 8), (9, .symi .i64 9), (10, .symi .i64 10), (2, .symi .u8 30)] [])))) (.dead)
set_option maxRecDepth 100000 in
theorem ikN_2 {W0 : World} {Z : Exit → Act → World → Prop} (τ : Sig) (e : Eqs τ 11 ikNG) (ht : τ.tab = (tabOf ckFs)) (hin : InsOk τ 11 ikK8) (hj : J8 τ) : segs τ (ikNQ W0 Z τ) ikN_s2 [.isn 12 2, .non 12 1, .non 12 0] := by
  have e11 : τ.bval 11 = decide (τ.ival 0 < 9) := eqB (e.at 0 _ rfl rfl) rfl
  have e14 : τ.bval 14 = (!τ.bval 13) := eqB (e.at 3 _ rfl rfl) rfl
  have e20 : τ.ival 20 = IntKind.i64.wrap (τ.ival 0 + 1) := eqI (e.at 9 _ rfl rfl) rfl
  have e26 : τ.ival 26 = ((τ.ival 2 : Int).fdiv (2 ^ (min (2 : Int).toNat IntKind.u8.bits))) := eqI (e.at 15 _ rfl rfl) rfl
  have e27 : τ.ival 27 = ((τ.ival 26 : Int).tmod 2) := eqI (e.at 16 _ rfl rfl) rfl
  have e28 : τ.bval 28 = (τ.ival 27 == 0) := eqB (e.at 17 _ rfl rfl) rfl
  have e29 : τ.bval 29 = decide (τ.ival 5 > τ.ival 1) := eqB (e.at 18 _ rfl rfl) rfl
  have e30 : τ.ival 30 = IntKind.u8.wrap (BitVec.ofInt IntKind.u8.bits (τ.ival 2) &&& ~~~BitVec.ofInt IntKind.u8.bits (4)).toNat := eqI (e.at 19 _ rfl rfl) rfl
  obtain ⟨hr, h13, hc⟩ := ikN_main τ e ht hj
  obtain ⟨g1, g2, g3, g4⟩ := id hj
  have a2 := u8_range (hin 2 .u8 (by decide) rfl)
  have pn : 0 ≤ pop (bitI (τ.ival 2)) := by
    unfold pop
    have q0 : 0 ≤ (bif bitI (τ.ival 2) 0 then (1 : Int) else 0) := by cases bitI (τ.ival 2) 0 <;> decide
    have q1 : 0 ≤ (bif bitI (τ.ival 2) 1 then (1 : Int) else 0) := by cases bitI (τ.ival 2) 1 <;> decide
    have q2 : 0 ≤ (bif bitI (τ.ival 2) 2 then (1 : Int) else 0) := by cases bitI (τ.ival 2) 2 <;> decide
    have q3 : 0 ≤ (bif bitI (τ.ival 2) 3 then (1 : Int) else 0) := by cases bitI (τ.ival 2) 3 <;> decide
    have q4 : 0 ≤ (bif bitI (τ.ival 2) 4 then (1 : Int) else 0) := by cases bitI (τ.ival 2) 4 <;> decide
    have q5 : 0 ≤ (bif bitI (τ.ival 2) 5 then (1 : Int) else 0) := by cases bitI (τ.ival 2) 5 <;> decide
    have q6 : 0 ≤ (bif bitI (τ.ival 2) 6 then (1 : Int) else 0) := by cases bitI (τ.ival 2) 6 <;> decide
    have q7 : 0 ≤ (bif bitI (τ.ival 2) 7 then (1 : Int) else 0) := by cases bitI (τ.ival 2) 7 <;> decide
    omega
  have hv : τ.ival 12 = 2 → bitI (τ.ival 2) 2 = true ∧ 0 < τ.ival 5 ∧ ∀ u, u < 8 → bitI (τ.ival 2) u = true → 0 < τ.ival (3 + u) → τ.ival (3 + u) ≤ τ.ival 5 := fun h => by
    rcases hc with ⟨e1, _⟩ | ⟨v, hv, e1, h1⟩
    · omega
    · obtain rfl : v = 2 := by omega
      exact h1
  have ebit : τ.bval 28 = !bitI (τ.ival 2) 2 := by rw [e28, e27, e26]; exact bit0 rfl a2.1
  refine ⟨⟨fun hF => ?_, ⟨fun hF => ?_, ⟨fun hF => ?_, fun hF => ?_⟩⟩⟩, fun hF => ?_⟩
  · have h : τ.bval 14 = true := hF.1
    have h2 : τ.ival 12 = 2 := hF.2.2.1
    rw [e14, h13, h2] at h
    cases h
  · have h : τ.bval 28 = true := hF.1
    have h2 : τ.ival 12 = 2 := hF.2.2.2.1
    rw [ebit, (hv h2).1] at h
    cases h
  · have h : τ.bval 29 = true := hF.1
    have h2 : τ.ival 12 = 2 := hF.2.2.2.2.1
    rw [e29, decide_eq_true_eq] at h
    have := g4 2 (by decide) (hv h2).1 (hv h2).2.1
    replace this : τ.ival 5 ≤ τ.ival 1 := this
    omega
  · have h2 : τ.ival 12 = 2 := hF.2.2.2.2.1
    obtain ⟨b1, b2, b3⟩ := hv h2
    have bl : ∀ u, u < 8 → bitI (τ.ival 30) u = (bitI (τ.ival 2) u && !(Nat.beq u 2)) := fun u hu => by rw [e30]; exact clr2 _ a2 u hu
    have pp : pop (bitI (τ.ival 30)) + 1 = pop (bitI (τ.ival 2)) := by
      unfold pop
      rw [bl 0 (by decide), bl 1 (by decide), bl 2 (by decide), bl 3 (by decide), bl 4 (by decide), bl 5 (by decide), bl 6 (by decide), bl 7 (by decide)]
      simp only [show ∀ b : Bool, (b && !Nat.beq 2 2) = false from fun b => by cases b <;> rfl, show ∀ b : Bool, (b && !Nat.beq 0 2) = b from fun b => by cases b <;> rfl, show ∀ b : Bool, (b && !Nat.beq 1 2) = b from fun b => by cases b <;> rfl, show ∀ b : Bool, (b && !Nat.beq 3 2) = b from fun b => by cases b <;> rfl, show ∀ b : Bool, (b && !Nat.beq 4 2) = b from fun b => by cases b <;> rfl, show ∀ b : Bool, (b && !Nat.beq 5 2) = b from fun b => by cases b <;> rfl, show ∀ b : Bool, (b && !Nat.beq 6 2) = b from fun b => by cases b <;> rfl, show ∀ b : Bool, (b && !Nat.beq 7 2) = b from fun b => by cases b <;> rfl, b1, cond_true, cond_false]
      omega
    have ei : τ.ival 20 = τ.ival 0 + 1 := by rw [e20]; exact w64 (by omega) (by omega)
    refine Or.inl ⟨rfl, rfl, insOk_asg e hin 12 (by kernel_rfl), ⟨prOk_of (σ := τ) (j := 3) rfl rfl rfl rfl rfl rfl rfl rfl g1, ?_, ?_, ?_⟩, ht, ?_⟩
    · show 0 ≤ τ.ival 20; omega
    · show τ.ival 20 + pop (bitI (τ.ival 30)) ≤ 8; omega
    · intro u hu hb hp
      replace hb : bitI (τ.ival 30) u = true := hb
      rw [bl u hu, Bool.and_eq_true] at hb
      match u, hu, hb, hp with
      | 0, _, hb, hp => exact b3 0 (by decide) hb.1 hp
      | 1, _, hb, hp => exact b3 1 (by decide) hb.1 hp
      | 2, _, hb, hp => exact b3 2 (by decide) hb.1 hp
      | 3, _, hb, hp => exact b3 3 (by decide) hb.1 hp
      | 4, _, hb, hp => exact b3 4 (by decide) hb.1 hp
      | 5, _, hb, hp => exact b3 5 (by decide) hb.1 hp
      | 6, _, hb, hp => exact b3 6 (by decide) hb.1 hp
      | 7, _, hb, hp => exact b3 7 (by decide) hb.1 hp
      | u + 8, hu, _, _ => exact absurd hu (by omega)
    · show (9 - τ.ival 20).toNat < (9 - τ.ival 0).toNat; omega
  · have h : τ.bval 11 = false := hF.1
    rw [e11, decide_eq_false_iff_not] at h
    omega

theorem clr3 (x : Int) (hx : 0 ≤ x ∧ x ≤ 255) : ∀ u, u < 8 → bitI (IntKind.u8.wrap ((BitVec.ofInt 8 x &&& ~~~ BitVec.ofInt 8 8 : BitVec 8).toNat : Int)) u = (bitI x u && !(Nat.beq u 3)) := by
  intro u hu
  rw [bitI_bv, bitI_in hx.1 hx.2, BitVec.getLsbD_and, BitVec.getLsbD_not]
  have : (decide (u < 8) && !(BitVec.ofInt 8 8).getLsbD u) = !(Nat.beq u 3) := by
    match u, hu with
    | 0, _ => decide
    | 1, _ => decide
    | 2, _ => decide
    | 3, _ => decide
    | 4, _ => decide
    | 5, _ => decide
    | 6, _ => decide
    | 7, _ => decide
    | u + 8, hu => exact absurd hu (by omega)
  rw [this]
def ikN_s3 : Sv := .node 11 (.node 14 (.dead) (.node 33 (.dead) (.node 34 (.dead) (.leaf .normal ikS8 ikFf [(1, .symi .i64 6), (2, .symi .u8 35), (0, .symi .i64 20), (3, .symi .i64 3), (4, .symi .i64 4), (5, .symi .i64 5), (6, .symi .i64 6), (7, .symi .i64 7), (8, .symi .i64 8), (9, .symi .i64 9), (10, .symi .i64 10), (2, .symi .u8 35)] [])))) (.dead)
set_option maxRecDepth 100000 in
theorem ikN_3 {W0 : World} {Z : Exit → Act → World → Prop} (τ : Sig) (e : Eqs τ 11 ikNG) (ht : τ.tab = (tabOf ckFs)) (hin : InsOk τ 11 ikK8) (hj : J8 τ) : segs τ (ikNQ W0 Z τ) ikN_s3 [.isn 12 3, .non 12 2, .non 12 1, .non 12 0] := by
  have e11 : τ.bval 11 = decide (τ.ival 0 < 9) := eqB (e.at 0 _ rfl rfl) rfl
  have e14 : τ.bval 14 = (!τ.bval 13) := eqB (e.at 3 _ rfl rfl) rfl
  have e20 : τ.ival 20 = IntKind.i64.wrap (τ.ival 0 + 1) := eqI (e.at 9 _ rfl rfl) rfl
  have e31 : τ.ival 31 = ((τ.ival 2 : Int).fdiv (2 ^ (min (3 : Int).toNat IntKind.u8.bits))) := eqI (e.at 20 _ rfl rfl) rfl
  have e32 : τ.ival 32 = ((τ.ival 31 : Int).tmod 2) := eqI (e.at 21 _ rfl rfl) rfl
  have e33 : τ.bval 33 = (τ.ival 32 == 0) := eqB (e.at 22 _ rfl rfl) rfl
  have e34 : τ.bval 34 = decide (τ.ival 6 > τ.ival 1) := eqB (e.at 23 _ rfl rfl) rfl
  have e35 : τ.ival 35 = IntKind.u8.wrap (BitVec.ofInt IntKind.u8.bits (τ.ival 2) &&& ~~~BitVec.ofInt IntKind.u8.bits (8)).toNat := eqI (e.at 24 _ rfl rfl) rfl
  obtain ⟨hr, h13, hc⟩ := ikN_main τ e ht hj
  obtain ⟨g1, g2, g3, g4⟩ := id hj
  have a2 := u8_range (hin 2 .u8 (by decide) rfl)
  have pn : 0 ≤ pop (bitI (τ.ival 2)) := by
    unfold pop
    have q0 : 0 ≤ (bif bitI (τ.ival 2) 0 then (1 : Int) else 0) := by cases bitI (τ.ival 2) 0 <;> decide
    have q1 : 0 ≤ (bif bitI (τ.ival 2) 1 then (1 : Int) else 0) := by cases bitI (τ.ival 2) 1 <;> decide
    have q2 : 0 ≤ (bif bitI (τ.ival 2) 2 then (1 : Int) else 0) := by cases bitI (τ.ival 2) 2 <;> decide
    have q3 : 0 ≤ (bif bitI (τ.ival 2) 3 then (1 : Int) else 0) := by cases bitI (τ.ival 2) 3 <;> decide
    have q4 : 0 ≤ (bif bitI (τ.ival 2) 4 then (1 : Int) else 0) := by cases bitI (τ.ival 2) 4 <;> decide
    have q5 : 0 ≤ (bif bitI (τ.ival 2) 5 then (1 : Int) else 0) := by cases bitI (τ.ival 2) 5 <;> decide
    have q6 : 0 ≤ (bif bitI (τ.ival 2) 6 then (1 : Int) else 0) := by cases bitI (τ.ival 2) 6 <;> decide
    have q7 : 0 ≤ (bif bitI (τ.ival 2) 7 then (1 : Int) else 0) := by cases bitI (τ.ival 2) 7 <;> decide
    omega
  have hv : τ.ival 12 = 3 → bitI (τ.ival 2) 3 = true ∧ 0 < τ.ival 6 ∧ ∀ u, u < 8 → bitI (τ.ival 2) u = true → 0 < τ.ival (3 + u) → τ.ival (3 + u) ≤ τ.ival 6 := fun h => by
    rcases hc with ⟨e1, _⟩ | ⟨v, hv, e1, h1⟩
    · omega
    · obtain rfl : v = 3 := by omega
      exact h1
  have ebit : τ.bval 33 = !bitI (τ.ival 2) 3 := by rw [e33, e32, e31]; exact bit0 rfl a2.1
  refine ⟨⟨fun hF => ?_, ⟨fun hF => ?_, ⟨fun hF => ?_, fun hF => ?_⟩⟩⟩, fun hF => ?_⟩
  · have h : τ.bval 14 = true := hF.1
    have h2 : τ.ival 12 = 3 := hF.2.2.1
    rw [e14, h13, h2] at h
    cases h
  · have h : τ.bval 33 = true := hF.1
    have h2 : τ.ival 12 = 3 := hF.2.2.2.1
    rw [ebit, (hv h2).1] at h
    cases h
  · have h : τ.bval 34 = true := hF.1
    have h2 : τ.ival 12 = 3 := hF.2.2.2.2.1
    rw [e34, decide_eq_true_eq] at h
    have := g4 3 (by decide) (hv h2).1 (hv h2).2.1
    replace this : τ.ival 6 ≤ τ.ival 1 := this
    omega
  · have h2 : τ.ival 12 = 3 := hF.2.2.2.2.1
    obtain ⟨b1, b2, b3⟩ := hv h2
    have bl : ∀ u, u < 8 → bitI (τ.ival 35) u = (bitI (τ.ival 2) u && !(Nat.beq u 3)) := fun u hu => by rw [e35]; exact clr3 _ a2 u hu
    have pp : pop (bitI (τ.ival 35)) + 1 = pop (bitI (τ.ival 2)) := by
      unfold pop
      rw [bl 0 (by decide), bl 1 (by decide), bl 2 (by decide), bl 3 (by decide), bl 4 (by decide), bl 5 (by decide), bl 6 (by decide), bl 7 (by decide)]
      simp only [show ∀ b : Bool, (b && !Nat.beq 3 3) = false from fun b => by cases b <;> rfl, show ∀ b : Bool, (b && !Nat.beq 0 3) = b from fun b => by cases b <;> rfl, show ∀ b : Bool, (b && !Nat.beq 1 3) = b from fun b => by cases b <;> rfl, show ∀ b : Bool, (b && !Nat.beq 2 3) = b from fun b => by cases b <;> rfl, show ∀ b : Bool, (b && !Nat.beq 4 3) = b from fun b => by cases b <;> rfl, show ∀ b : Bool, (b && !Nat.beq 5 3) = b from fun b => by cases b <;> rfl, show ∀ b : Bool, (b && !Nat.beq 6 3) = b from fun b => by cases b <;> rfl, show ∀ b : Bool, (b && !Nat.beq 7 3) = b from fun b => by cases b <;> rfl, b1, cond_true, cond_false]
      omega
    have ei : τ.ival 20 = τ.ival 0 + 1 := by rw [e20]; exact w64 (by omega) (by omega)
    refine Or.inl ⟨rfl, rfl, insOk_asg e hin 12 (by kernel_rfl), ⟨prOk_of (σ := τ) (j := 3) rfl rfl rfl rfl rfl rfl rfl rfl g1, ?_, ?_, ?_⟩, ht, ?_⟩
    · show 0 ≤ τ.ival 20; omega
    · show τ.ival 20 + pop (bitI (τ.ival 35)) ≤ 8; omega
    · intro u hu hb hp
      replace hb : bitI (τ.ival 35) u = true := hb
      rw [bl u hu, Bool.and_eq_true] at hb
      match u, hu, hb, hp with
      | 0, _, hb, hp => exact b3 0 (by decide) hb.1 hp
      | 1, _, hb, hp => exact b3 1 (by decide) hb.1 hp
      | 2, _, hb, hp => exact b3 2 (by decide) hb.1 hp
      | 3, _, hb, hp => exact b3 3 (by decide) hb.1 hp
      | 4, _, hb, hp => exact b3 4 (by decide) hb.1 hp
      | 5, _, hb, hp => exact b3 5 (by decide) hb.1 hp
      | 6, _, hb, hp => exact b3 6 (by decide) hb.1 hp
      | 7, _, hb, hp => exact b3 7 (by decide) hb.1 hp
      | u + 8, hu, _, _ => exact absurd hu (by omega)
    · show (9 - τ.ival 20).toNat < (9 - τ.ival 0).toNat; omega
  · have h : τ.bval 11 = false := hF.1
    rw [e11, decide_eq_false_iff_not] at h
    omega

theorem clr4 (x : Int) (hx : 0 ≤ x ∧ x ≤ 255) : ∀ u, u < 8 → bitI (IntKind.u8.wrap ((BitVec.ofInt 8 x &&& ~~~ BitVec.ofInt 8 16 : BitVec 8).toNat : Int)) u = (bitI x u && !(Nat.beq u 4)) := by
  intro u hu
  rw [bitI_bv, bitI_in hx.1 hx.2, BitVec.getLsbD_and, BitVec.getLsbD_not]
  have : (decide (u < 8) && !(BitVec.ofInt 8 16).getLsbD u) = !(Nat.beq u 4) := by
    match u, hu with
    | 0, _ => decide
    | 1, _ => decide
    | 2, _ => decide
    | 3, _ => decide
    | 4, _ => decide
    | 5, _ => decide
    | 6, _ => decide
    | 7, _ => decide
    | u + 8, hu => exact absurd hu (by omega)
  rw [this]
def ikN_s4 : Sv := .node 11 (.node 14 (.dead) (.node 38 (.dead) (.node 39 (.dead) (.leaf .normal ikS8 ikFf [(1, .symi .i64 7), (2, .symi .u8 40), (0, .symi .i64 20), (3, .symi .i64 3), (4, .symi .i64 4), (5, .symi .i64 5), (6, .symi .i64 6), (7, .symi .i64 7), (8, .symi .i64 8), (9, .symi .i64 9), (10, .symi .i64 10), (2, .symi .u8 40)] [])))) (.dead)
set_option maxRecDepth 100000 in
theorem ikN_4 {W0 : World} {Z : Exit → Act → World → Prop} (τ : Sig) (e : Eqs τ 11 ikNG) (ht : τ.tab = (tabOf ckFs)) (hin : InsOk τ 11 ikK8) (hj : J8 τ) : segs τ (ikNQ W0 Z τ) ikN_s4 [.isn 12 4, .non 12 3, .non 12 2, .non 12 1, .non 12 0] := by
  have e11 : τ.bval 11 = decide (τ.ival 0 < 9) := eqB (e.at 0 _ rfl rfl) rfl
  have e14 : τ.bval 14 = (!τ.bval 13) := eqB (e.at 3 _ rfl rfl) rfl
  have e20 : τ.ival 20 = IntKind.i64.wrap (τ.ival 0 + 1) := eqI (e.at 9 _ rfl rfl) rfl
  have e36 : τ.ival 36 = ((τ.ival 2 : Int).fdiv (2 ^ (min (4 : Int).toNat IntKind.u8.bits))) := eqI (e.at 25 _ rfl rfl) rfl
  have e37 : τ.ival 37 = ((τ.ival 36 : Int).tmod 2) := eqI (e.at 26 _ rfl rfl) rfl
  have e38 : τ.bval 38 = (τ.ival 37 == 0) := eqB (e.at 27 _ rfl rfl) rfl
  have e39 : τ.bval 39 = decide (τ.ival 7 > τ.ival 1) := eqB (e.at 28 _ rfl rfl) rfl
  have e40 : τ.ival 40 = IntKind.u8.wrap (BitVec.ofInt IntKind.u8.bits (τ.ival 2) &&& ~~~BitVec.ofInt IntKind.u8.bits (16)).toNat := eqI (e.at 29 _ rfl rfl) rfl
  obtain ⟨hr, h13, hc⟩ := ikN_main τ e ht hj
  obtain ⟨g1, g2, g3, g4⟩ := id hj
  have a2 := u8_range (hin 2 .u8 (by decide) rfl)
  have pn : 0 ≤ pop (bitI (τ.ival 2)) := by
    unfold pop
    have q0 : 0 ≤ (bif bitI (τ.ival 2) 0 then (1 : Int) else 0) := by cases bitI (τ.ival 2) 0 <;> decide
    have q1 : 0 ≤ (bif bitI (τ.ival 2) 1 then (1 : Int) else 0) := by cases bitI (τ.ival 2) 1 <;> decide
    have q2 : 0 ≤ (bif bitI (τ.ival 2) 2 then (1 : Int) else 0) := by cases bitI (τ.ival 2) 2 <;> decide
    have q3 : 0 ≤ (bif bitI (τ.ival 2) 3 then (1 : Int) else 0) := by cases bitI (τ.ival 2) 3 <;> decide
    have q4 : 0 ≤ (bif bitI (τ.ival 2) 4 then (1 : Int) else 0) := by cases bitI (τ.ival 2) 4 <;> decide
    have q5 : 0 ≤ (bif bitI (τ.ival 2) 5 then (1 : Int) else 0) := by cases bitI (τ.ival 2) 5 <;> decide
    have q6 : 0 ≤ (bif bitI (τ.ival 2) 6 then (1 : Int) else 0) := by cases bitI (τ.ival 2) 6 <;> decide
    have q7 : 0 ≤ (bif bitI (τ.ival 2) 7 then (1 : Int) else 0) := by cases bitI (τ.ival 2) 7 <;> decide
    omega
  have hv : τ.ival 12 = 4 → bitI (τ.ival 2) 4 = true ∧ 0 < τ.ival 7 ∧ ∀ u, u < 8 → bitI (τ.ival 2) u = true → 0 < τ.ival (3 + u) → τ.ival (3 + u) ≤ τ.ival 7 := fun h => by
    rcases hc with ⟨e1, _⟩ | ⟨v, hv, e1, h1⟩
    · omega
    · obtain rfl : v = 4 := by omega
      exact h1
  have ebit : τ.bval 38 = !bitI (τ.ival 2) 4 := by rw [e38, e37, e36]; exact bit0 rfl a2.1
  refine ⟨⟨fun hF => ?_, ⟨fun hF => ?_, ⟨fun hF => ?_, fun hF => ?_⟩⟩⟩, fun hF => ?_⟩
  · have h : τ.bval 14 = true := hF.1
    have h2 : τ.ival 12 = 4 := hF.2.2.1
    rw [e14, h13, h2] at h
    cases h
  · have h : τ.bval 38 = true := hF.1
    have h2 : τ.ival 12 = 4 := hF.2.2.2.1
    rw [ebit, (hv h2).1] at h
    cases h
  · have h : τ.bval 39 = true := hF.1
    have h2 : τ.ival 12 = 4 := hF.2.2.2.2.1
    rw [e39, decide_eq_true_eq] at h
    have := g4 4 (by decide) (hv h2).1 (hv h2).2.1
    replace this : τ.ival 7 ≤ τ.ival 1 := this
    omega
  · have h2 : τ.ival 12 = 4 := hF.2.2.2.2.1
    obtain ⟨b1, b2, b3⟩ := hv h2
    have bl : ∀ u, u < 8 → bitI (τ.ival 40) u = (bitI (τ.ival 2) u && !(Nat.beq u 4)) := fun u hu => by rw [e40]; exact clr4 _ a2 u hu
    have pp : pop (bitI (τ.ival 40)) + 1 = pop (bitI (τ.ival 2)) := by
      unfold pop
      rw [bl 0 (by decide), bl 1 (by decide), bl 2 (by decide), bl 3 (by decide), bl 4 (by decide), bl 5 (by decide), bl 6 (by decide), bl 7 (by decide)]
      simp only [show ∀ b : Bool, (b && !Nat.beq 4 4) = false from fun b => by cases b <;> rfl, show ∀ b : Bool, (b && !Nat.beq 0 4) = b from fun b => by cases b <;> rfl, show ∀ b : Bool, (b && !Nat.beq 1 4) = b from fun b => by cases b <;> rfl, show ∀ b : Bool, (b && !Nat.beq 2 4) = b from fun b => by cases b <;> rfl, show ∀ b : Bool, (b && !Nat.beq 3 4) = b from fun b => by cases b <;> rfl, show ∀ b : Bool, (b && !Nat.beq 5 4) = b from fun b => by cases b <;> rfl, show ∀ b : Bool, (b && !Nat.beq 6 4) = b from fun b => by cases b <;> rfl, show ∀ b : Bool, (b && !Nat.beq 7 4) = b from fun b => by cases b <;> rfl, b1, cond_true, cond_false]
      omega
    have ei : τ.ival 20 = τ.ival 0 + 1 := by rw [e20]; exact w64 (by omega) (by omega)
    refine Or.inl ⟨rfl, rfl, insOk_asg e hin 12 (by kernel_rfl), ⟨prOk_of (σ := τ) (j := 3) rfl rfl rfl rfl rfl rfl rfl rfl g1, ?_, ?_, ?_⟩, ht, ?_⟩
    · show 0 ≤ τ.ival 20; omega
    · show τ.ival 20 + pop (bitI (τ.ival 40)) ≤ 8; omega
    · intro u hu hb hp
      replace hb : bitI (τ.ival 40) u = true := hb
      rw [bl u hu, Bool.and_eq_true] at hb
      match u, hu, hb, hp with
      | 0, _, hb, hp => exact b3 0 (by decide) hb.1 hp
      | 1, _, hb, hp => exact b3 1 (by decide) hb.1 hp
      | 2, _, hb, hp => exact b3 2 (by decide) hb.1 hp
      | 3, _, hb, hp => exact b3 3 (by decide) hb.1 hp
      | 4, _, hb, hp => exact b3 4 (by decide) hb.1 hp
      | 5, _, hb, hp => exact b3 5 (by decide) hb.1 hp
      | 6, _, hb, hp => exact b3 6 (by decide) hb.1 hp
      | 7, _, hb, hp => exact b3 7 (by decide) hb.1 hp
      | u + 8, hu, _, _ => exact absurd hu (by omega)
    · show (9 - τ.ival 20).toNat < (9 - τ.ival 0).toNat; omega
  · have h : τ.bval 11 = false := hF.1
    rw [e11, decide_eq_false_iff_not] at h
    omega

theorem clr5 (x : Int) (hx : 0 ≤ x ∧ x ≤ 255) : ∀ u, u < 8 → bitI (IntKind.u8.wrap ((BitVec.ofInt 8 x &&& ~~~ BitVec.ofInt 8 32 : BitVec 8).toNat : Int)) u = (bitI x u && !(Nat.beq u 5)) := by
  intro u hu
  rw [bitI_bv, bitI_in hx.1 hx.2, BitVec.getLsbD_and, BitVec.getLsbD_not]
  have : (decide (u < 8) && !(BitVec.ofInt 8 32).getLsbD u) = !(Nat.beq u 5) := by
    match u, hu with
    | 0, _ => decide
    | 1, _ => decide
    | 2, _ => decide
    | 3, _ => decide
    | 4, _ => decide
    | 5, _ => decide
    | 6, _ => decide
    | 7, _ => decide
    | u + 8, hu => exact absurd hu (by omega)
  rw [this]
def ikN_s5 : Sv := .node 11 (.node 14 (.dead) (.node 43 (.dead) (.node 44 (.dead) (.leaf .normal ikS8 ikFf [(1, .symi .i64 8), (2, .symi .u8 45), (0, .symi .i64 20), (3, .symi .i64 3), (4, .symi .i64 4), (5, .symi .i64 5), (6, .symi .i64 6), (7, .symi .i64 7), (8, .symi .i64 8), (9, .symi .i64 9), (10, .symi .i64 10), (2, .symi .u8 45)] [])))) (.dead)
set_option maxRecDepth 100000 in
theorem ikN_5 {W0 : World} {Z : Exit → Act → World → Prop} (τ : Sig) (e : Eqs τ 11 ikNG) (ht : τ.tab = (tabOf ckFs)) (hin : InsOk τ 11 ikK8) (hj : J8 τ) : segs τ (ikNQ W0 Z τ) ikN_s5 [.isn 12 5, .non 12 4, .non 12 3, .non 12 2, .non 12 1, .non 12 0] := by
  have e11 : τ.bval 11 = decide (τ.ival 0 < 9) := eqB (e.at 0 _ rfl rfl) rfl
  have e14 : τ.bval 14 = (!τ.bval 13) := eqB (e.at 3 _ rfl rfl) rfl
  have e20 : τ.ival 20 = IntKind.i64.wrap (τ.ival 0 + 1) := eqI (e.at 9 _ rfl rfl) rfl
  have e41 : τ.ival 41 = ((τ.ival 2 : Int).fdiv (2 ^ (min (5 : Int).toNat IntKind.u8.bits))) := eqI (e.at 30 _ rfl rfl) rfl
  have e42 : τ.ival 42 = ((τ.ival 41 : Int).tmod 2) := eqI (e.at 31 _ rfl rfl) rfl
  have e43 : τ.bval 43 = (τ.ival 42 == 0) := eqB (e.at 32 _ rfl rfl) rfl
  have e44 : τ.bval 44 = decide (τ.ival 8 > τ.ival 1) := eqB (e.at 33 _ rfl rfl) rfl
  have e45 : τ.ival 45 = IntKind.u8.wrap (BitVec.ofInt IntKind.u8.bits (τ.ival 2) &&& ~~~BitVec.ofInt IntKind.u8.bits (32)).toNat := eqI (e.at 34 _ rfl rfl) rfl
  obtain ⟨hr, h13, hc⟩ := ikN_main τ e ht hj
  obtain ⟨g1, g2, g3, g4⟩ := id hj
  have a2 := u8_range (hin 2 .u8 (by decide) rfl)
  have pn : 0 ≤ pop (bitI (τ.ival 2)) := by
    unfold pop
    have q0 : 0 ≤ (bif bitI (τ.ival 2) 0 then (1 : Int) else 0) := by cases bitI (τ.ival 2) 0 <;> decide
    have q1 : 0 ≤ (bif bitI (τ.ival 2) 1 then (1 : Int) else 0) := by cases bitI (τ.ival 2) 1 <;> decide
    have q2 : 0 ≤ (bif bitI (τ.ival 2) 2 then (1 : Int) else 0) := by cases bitI (τ.ival 2) 2 <;> decide
    have q3 : 0 ≤ (bif bitI (τ.ival 2) 3 then (1 : Int) else 0) := by cases bitI (τ.ival 2) 3 <;> decide
    have q4 : 0 ≤ (bif bitI (τ.ival 2) 4 then (1 : Int) else 0) := by cases bitI (τ.ival 2) 4 <;> decide
    have q5 : 0 ≤ (bif bitI (τ.ival 2) 5 then (1 : Int) else 0) := by cases bitI (τ.ival 2) 5 <;> decide
    have q6 : 0 ≤ (bif bitI (τ.ival 2) 6 then (1 : Int) else 0) := by cases bitI (τ.ival 2) 6 <;> decide
    have q7 : 0 ≤ (bif bitI (τ.ival 2) 7 then (1 : Int) else 0) := by cases bitI (τ.ival 2) 7 <;> decide
    omega
  have hv : τ.ival 12 = 5 → bitI (τ.ival 2) 5 = true ∧ 0 < τ.ival 8 ∧ ∀ u, u < 8 → bitI (τ.ival 2) u = true → 0 < τ.ival (3 + u) → τ.ival (3 + u) ≤ τ.ival 8 := fun h => by
    rcases hc with ⟨e1, _⟩ | ⟨v, hv, e1, h1⟩
    · omega
    · obtain rfl : v = 5 := by omega
      exact h1
  have ebit : τ.bval 43 = !bitI (τ.ival 2) 5 := by rw [e43, e42, e41]; exact bit0 rfl a2.1
  refine ⟨⟨fun hF => ?_, ⟨fun hF => ?_, ⟨fun hF => ?_, fun hF => ?_⟩⟩⟩, fun hF => ?_⟩
  · have h : τ.bval 14 = true := hF.1
    have h2 : τ.ival 12 = 5 := hF.2.2.1
    rw [e14, h13, h2] at h
    cases h
  · have h : τ.bval 43 = true := hF.1
    have h2 : τ.ival 12 = 5 := hF.2.2.2.1
    rw [ebit, (hv h2).1] at h
    cases h
  · have h : τ.bval 44 = true := hF.1
    have h2 : τ.ival 12 = 5 := hF.2.2.2.2.1
    rw [e44, decide_eq_true_eq] at h
    have := g4 5 (by decide) (hv h2).1 (hv h2).2.1
    replace this : τ.ival 8 ≤ τ.ival 1 := this
    omega
  · have h2 : τ.ival 12 = 5 := hF.2.2.2.2.1
    obtain ⟨b1, b2, b3⟩ := hv h2
    have bl : ∀ u, u < 8 → bitI (τ.ival 45) u = (bitI (τ.ival 2) u && !(Nat.beq u 5)) := fun u hu => by rw [e45]; exact clr5 _ a2 u hu
    have pp : pop (bitI (τ.ival 45)) + 1 = pop (bitI (τ.ival 2)) := by
      unfold pop
      rw [bl 0 (by decide), bl 1 (by decide), bl 2 (by decide), bl 3 (by decide), bl 4 (by decide), bl 5 (by decide), bl 6 (by decide), bl 7 (by decide)]
      simp only [show ∀ b : Bool, (b && !Nat.beq 5 5) = false from fun b => by cases b <;> rfl, show ∀ b : Bool, (b && !Nat.beq 0 5) = b from fun b => by cases b <;> rfl, show ∀ b : Bool, (b && !Nat.beq 1 5) = b from fun b => by cases b <;> rfl, show ∀ b : Bool, (b && !Nat.beq 2 5) = b from fun b => by cases b <;> rfl, show ∀ b : Bool, (b && !Nat.beq 3 5) = b from fun b => by cases b <;> rfl, show ∀ b : Bool, (b && !Nat.beq 4 5) = b from fun b => by cases b <;> rfl, show ∀ b : Bool, (b && !Nat.beq 6 5) = b from fun b => by cases b <;> rfl, show ∀ b : Bool, (b && !Nat.beq 7 5) = b from fun b => by cases b <;> rfl, b1, cond_true, cond_false]
      omega
    have ei : τ.ival 20 = τ.ival 0 + 1 := by rw [e20]; exact w64 (by omega) (by omega)
    refine Or.inl ⟨rfl, rfl, insOk_asg e hin 12 (by kernel_rfl), ⟨prOk_of (σ := τ) (j := 3) rfl rfl rfl rfl rfl rfl rfl rfl g1, ?_, ?_, ?_⟩, ht, ?_⟩
    · show 0 ≤ τ.ival 20; omega
    · show τ.ival 20 + pop (bitI (τ.ival 45)) ≤ 8; omega
    · intro u hu hb hp
      replace hb : bitI (τ.ival 45) u = true := hb
      rw [bl u hu, Bool.and_eq_true] at hb
      match u, hu, hb, hp with
      | 0, _, hb, hp => exact b3 0 (by decide) hb.1 hp
      | 1, _, hb, hp => exact b3 1 (by decide) hb.1 hp
      | 2, _, hb, hp => exact b3 2 (by decide) hb.1 hp
      | 3, _, hb, hp => exact b3 3 (by decide) hb.1 hp
      | 4, _, hb, hp => exact b3 4 (by decide) hb.1 hp
      | 5, _, hb, hp => exact b3 5 (by decide) hb.1 hp
      | 6, _, hb, hp => exact b3 6 (by decide) hb.1 hp
      | 7, _, hb, hp => exact b3 7 (by decide) hb.1 hp
      | u + 8, hu, _, _ => exact absurd hu (by omega)
    · show (9 - τ.ival 20).toNat < (9 - τ.ival 0).toNat; omega
  · have h : τ.bval 11 = false := hF.1
    rw [e11, decide_eq_false_iff_not] at h
    omega

theorem clr6 (x : Int) (hx : 0 ≤ x ∧ x ≤ 255) : ∀ u, u < 8 → bitI (IntKind.u8.wrap ((BitVec.ofInt 8 x &&& ~~~ BitVec.ofInt 8 64 : BitVec 8).toNat : Int)) u = (bitI x u && !(Nat.beq u 6)) := by
  intro u hu
  rw [bitI_bv, bitI_in hx.1 hx.2, BitVec.getLsbD_and, BitVec.getLsbD_not]
  have : (decide (u < 8) && !(BitVec.ofInt 8 64).getLsbD u) = !(Nat.beq u 6) := by
    match u, hu with
    | 0, _ => decide
    | 1, _ => decide
    | 2, _ => decide
    | 3, _ => decide
    | 4, _ => decide
    | 5, _ => decide
    | 6, _ => decide
    | 7, _ => decide
    | u + 8, hu => exact absurd hu (by omega)
  rw [this]
def ikN_s6 : Sv := .node 11 (.node 14 (.dead) (.node 48 (.dead) (.node 49 (.dead) (.leaf .normal ikS8 ikFf [(1, .symi .i64 9), (2, .symi .u8 50), (0, .symi .i64 20), (3, .symi .i64 3), (4, .symi .i64 4), (5, .symi .i64 5), (6, .symi .i64 6), (7, .symi .i64 7), (8, .symi .i64 8), (9, .symi .i64 9), (10, .symi .i64 10), (2, .symi .u8 50)] [])))) (.dead)
set_option maxRecDepth 100000 in
theorem ikN_6 {W0 : World} {Z : Exit → Act → World → Prop} (τ : Sig) (e : Eqs τ 11 ikNG) (ht : τ.tab = (tabOf ckFs)) (hin : InsOk τ 11 ikK8) (hj : J8 τ) : segs τ (ikNQ W0 Z τ) ikN_s6 [.isn 12 6, .non 12 5, .non 12 4, .non 12 3, .non 12 2, .non 12 1, .non 12 0] := by
  have e11 : τ.bval 11 = decide (τ.ival 0 < 9) := eqB (e.at 0 _ rfl rfl) rfl
  have e14 : τ.bval 14 = (!τ.bval 13) := eqB (e.at 3 _ rfl rfl) rfl
  have e20 : τ.ival 20 = IntKind.i64.wrap (τ.ival 0 + 1) := eqI (e.at 9 _ rfl rfl) rfl
  have e46 : τ.ival 46 = ((τ.ival 2 : Int).fdiv (2 ^ (min (6 : Int).toNat IntKind.u8.bits))) := eqI (e.at 35 _ rfl rfl) rfl
  have e47 : τ.ival 47 = ((τ.ival 46 : Int).tmod 2) := eqI (e.at 36 _ rfl rfl) rfl
  have e48 : τ.bval 48 = (τ.ival 47 == 0) := eqB (e.at 37 _ rfl rfl) rfl
  have e49 : τ.bval 49 = decide (τ.ival 9 > τ.ival 1) := eqB (e.at 38 _ rfl rfl) rfl
  have e50 : τ.ival 50 = IntKind.u8.wrap (BitVec.ofInt IntKind.u8.bits (τ.ival 2) &&& ~~~BitVec.ofInt IntKind.u8.bits (64)).toNat := eqI (e.at 39 _ rfl rfl) rfl
  obtain ⟨hr, h13, hc⟩ := ikN_main τ e ht hj
  obtain ⟨g1, g2, g3, g4⟩ := id hj
  have a2 := u8_range (hin 2 .u8 (by decide) rfl)
  have pn : 0 ≤ pop (bitI (τ.ival 2)) := by
    unfold pop
    have q0 : 0 ≤ (bif bitI (τ.ival 2) 0 then (1 : Int) else 0) := by cases bitI (τ.ival 2) 0 <;> decide
    have q1 : 0 ≤ (bif bitI (τ.ival 2) 1 then (1 : Int) else 0) := by cases bitI (τ.ival 2) 1 <;> decide
    have q2 : 0 ≤ (bif bitI (τ.ival 2) 2 then (1 : Int) else 0) := by cases bitI (τ.ival 2) 2 <;> decide
    have q3 : 0 ≤ (bif bitI (τ.ival 2) 3 then (1 : Int) else 0) := by cases bitI (τ.ival 2) 3 <;> decide
    have q4 : 0 ≤ (bif bitI (τ.ival 2) 4 then (1 : Int) else 0) := by cases bitI (τ.ival 2) 4 <;> decide
    have q5 : 0 ≤ (bif bitI (τ.ival 2) 5 then (1 : Int) else 0) := by cases bitI (τ.ival 2) 5 <;> decide
    have q6 : 0 ≤ (bif bitI (τ.ival 2) 6 then (1 : Int) else 0) := by cases bitI (τ.ival 2) 6 <;> decide
    have q7 : 0 ≤ (bif bitI (τ.ival 2) 7 then (1 : Int) else 0) := by cases bitI (τ.ival 2) 7 <;> decide
    omega
  have hv : τ.ival 12 = 6 → bitI (τ.ival 2) 6 = true ∧ 0 < τ.ival 9 ∧ ∀ u, u < 8 → bitI (τ.ival 2) u = true → 0 < τ.ival (3 + u) → τ.ival (3 + u) ≤ τ.ival 9 := fun h => by
    rcases hc with ⟨e1, _⟩ | ⟨v, hv, e1, h1⟩
    · omega
    · obtain rfl : v = 6 := by omega
      exact h1
  have ebit : τ.bval 48 = !bitI (τ.ival 2) 6 := by rw [e48, e47, e46]; exact bit0 rfl a2.1
  refine ⟨⟨fun hF => ?_, ⟨fun hF => ?_, ⟨fun hF => ?_, fun hF => ?_⟩⟩⟩, fun hF => ?_⟩
  · have h : τ.bval 14 = true := hF.1
    have h2 : τ.ival 12 = 6 := hF.2.2.1
    rw [e14, h13, h2] at h
    cases h
  · have h : τ.bval 48 = true := hF.1
    have h2 : τ.ival 12 = 6 := hF.2.2.2.1
    rw [ebit, (hv h2).1] at h
    cases h
  · have h : τ.bval 49 = true := hF.1
    have h2 : τ.ival 12 = 6 := hF.2.2.2.2.1
    rw [e49, decide_eq_true_eq] at h
    have := g4 6 (by decide) (hv h2).1 (hv h2).2.1
    replace this : τ.ival 9 ≤ τ.ival 1 := this
    omega
  · have h2 : τ.ival 12 = 6 := hF.2.2.2.2.1
    obtain ⟨b1, b2, b3⟩ := hv h2
    have bl : ∀ u, u < 8 → bitI (τ.ival 50) u = (bitI (τ.ival 2) u && !(Nat.beq u 6)) := fun u hu => by rw [e50]; exact clr6 _ a2 u hu
    have pp : pop (bitI (τ.ival 50)) + 1 = pop (bitI (τ.ival 2)) := by
      unfold pop
      rw [bl 0 (by decide), bl 1 (by decide), bl 2 (by decide), bl 3 (by decide), bl 4 (by decide), bl 5 (by decide), bl 6 (by decide), bl 7 (by decide)]
      simp only [show ∀ b : Bool, (b && !Nat.beq 6 6) = false from fun b => by cases b <;> rfl, show ∀ b : Bool, (b && !Nat.beq 0 6) = b from fun b => by cases b <;> rfl, show ∀ b : Bool, (b && !Nat.beq 1 6) = b from fun b => by cases b <;> rfl, show ∀ b : Bool, (b && !Nat.beq 2 6) = b from fun b => by cases b <;> rfl, show ∀ b : Bool, (b && !Nat.beq 3 6) = b from fun b => by cases b <;> rfl, show ∀ b : Bool, (b && !Nat.beq 4 6) = b from fun b => by cases b <;> rfl, show ∀ b : Bool, (b && !Nat.beq 5 6) = b from fun b => by cases b <;> rfl, show ∀ b : Bool, (b && !Nat.beq 7 6) = b from fun b => by cases b <;> rfl, b1, cond_true, cond_false]
      omega
    have ei : τ.ival 20 = τ.ival 0 + 1 := by rw [e20]; exact w64 (by omega) (by omega)
    refine Or.inl ⟨rfl, rfl, insOk_asg e hin 12 (by kernel_rfl), ⟨prOk_of (σ := τ) (j := 3) rfl rfl rfl rfl rfl rfl rfl rfl g1, ?_, ?_, ?_⟩, ht, ?_⟩
    · show 0 ≤ τ.ival 20; omega
    · show τ.ival 20 + pop (bitI (τ.ival 50)) ≤ 8; omega
    · intro u hu hb hp
      replace hb : bitI (τ.ival 50) u = true := hb
      rw [bl u hu, Bool.and_eq_true] at hb
      match u, hu, hb, hp with
      | 0, _, hb, hp => exact b3 0 (by decide) hb.1 hp
      | 1, _, hb, hp => exact b3 1 (by decide) hb.1 hp
      | 2, _, hb, hp => exact b3 2 (by decide) hb.1 hp
      | 3, _, hb, hp => exact b3 3 (by decide) hb.1 hp
      | 4, _, hb, hp => exact b3 4 (by decide) hb.1 hp
      | 5, _, hb, hp => exact b3 5 (by decide) hb.1 hp
      | 6, _, hb, hp => exact b3 6 (by decide) hb.1 hp
      | 7, _, hb, hp => exact b3 7 (by decide) hb.1 hp
      | u + 8, hu, _, _ => exact absurd hu (by omega)
    · show (9 - τ.ival 20).toNat < (9 - τ.ival 0).toNat; omega
  · have h : τ.bval 11 = false := hF.1
    rw [e11, decide_eq_false_iff_not] at h
    omega

theorem clr7 (x : Int) (hx : 0 ≤ x ∧ x ≤ 255) : ∀ u, u < 8 → bitI (IntKind.u8.wrap ((BitVec.ofInt 8 x &&& ~~~ BitVec.ofInt 8 128 : BitVec 8).toNat : Int)) u = (bitI x u && !(Nat.beq u 7)) := by
  intro u hu
  rw [bitI_bv, bitI_in hx.1 hx.2, BitVec.getLsbD_and, BitVec.getLsbD_not]
  have : (decide (u < 8) && !(BitVec.ofInt 8 128).getLsbD u) = !(Nat.beq u 7) := by
    match u, hu with
    | 0, _ => decide
    | 1, _ => decide
    | 2, _ => decide
    | 3, _ => decide
    | 4, _ => decide
    | 5, _ => decide
    | 6, _ => decide
    | 7, _ => decide
    | u + 8, hu => exact absurd hu (by omega)
  rw [this]
def ikN_s7 : Sv := .node 11 (.node 14 (.dead) (.node 53 (.dead) (.node 54 (.dead) (.leaf .normal ikS8 ikFf [(1, .symi .i64 10), (2, .symi .u8 55), (0, .symi .i64 20), (3, .symi .i64 3), (4, .symi .i64 4), (5, .symi .i64 5), (6, .symi .i64 6), (7, .symi .i64 7), (8, .symi .i64 8), (9, .symi .i64 9), (10, .symi .i64 10), (2, .symi .u8 55)] [])))) (.dead)
set_option maxRecDepth 100000 in
theorem ikN_7 {W0 : World} {Z : Exit → Act → World → Prop} (τ : Sig) (e : Eqs τ 11 ikNG) (ht : τ.tab = (tabOf ckFs)) (hin : InsOk τ 11 ikK8) (hj : J8 τ) : segs τ (ikNQ W0 Z τ) ikN_s7 [.isn 12 7, .non 12 6, .non 12 5, .non 12 4, .non 12 3, .non 12 2, .non 12 1, .non 12 0] := by
  have e11 : τ.bval 11 = decide (τ.ival 0 < 9) := eqB (e.at 0 _ rfl rfl) rfl
  have e14 : τ.bval 14 = (!τ.bval 13) := eqB (e.at 3 _ rfl rfl) rfl
  have e20 : τ.ival 20 = IntKind.i64.wrap (τ.ival 0 + 1) := eqI (e.at 9 _ rfl rfl) rfl
  have e51 : τ.ival 51 = ((τ.ival 2 : Int).fdiv (2 ^ (min (7 : Int).toNat IntKind.u8.bits))) := eqI (e.at 40 _ rfl rfl) rfl
  have e52 : τ.ival 52 = ((τ.ival 51 : Int).tmod 2) := eqI (e.at 41 _ rfl rfl) rfl
  have e53 : τ.bval 53 = (τ.ival 52 == 0) := eqB (e.at 42 _ rfl rfl) rfl
  have e54 : τ.bval 54 = decide (τ.ival 10 > τ.ival 1) := eqB (e.at 43 _ rfl rfl) rfl
  have e55 : τ.ival 55 = IntKind.u8.wrap (BitVec.ofInt IntKind.u8.bits (τ.ival 2) &&& ~~~BitVec.ofInt IntKind.u8.bits (128)).toNat := eqI (e.at 44 _ rfl rfl) rfl
  obtain ⟨hr, h13, hc⟩ := ikN_main τ e ht hj
  obtain ⟨g1, g2, g3, g4⟩ := id hj
  have a2 := u8_range (hin 2 .u8 (by decide) rfl)
  have pn : 0 ≤ pop (bitI (τ.ival 2)) := by
    unfold pop
    have q0 : 0 ≤ (bif bitI (τ.ival 2) 0 then (1 : Int) else 0) := by cases bitI (τ.ival 2) 0 <;> decide
    have q1 : 0 ≤ (bif bitI (τ.ival 2) 1 then (1 : Int) else 0) := by cases bitI (τ.ival 2) 1 <;> decide
    have q2 : 0 ≤ (bif bitI (τ.ival 2) 2 then (1 : Int) else 0) := by cases bitI (τ.ival 2) 2 <;> decide
    have q3 : 0 ≤ (bif bitI (τ.ival 2) 3 then (1 : Int) else 0) := by cases bitI (τ.ival 2) 3 <;> decide
    have q4 : 0 ≤ (bif bitI (τ.ival 2) 4 then (1 : Int) else 0) := by cases bitI (τ.ival 2) 4 <;> decide
    have q5 : 0 ≤ (bif bitI (τ.ival 2) 5 then (1 : Int) else 0) := by cases bitI (τ.ival 2) 5 <;> decide
    have q6 : 0 ≤ (bif bitI (τ.ival 2) 6 then (1 : Int) else 0) := by cases bitI (τ.ival 2) 6 <;> decide
    have q7 : 0 ≤ (bif bitI (τ.ival 2) 7 then (1 : Int) else 0) := by cases bitI (τ.ival 2) 7 <;> decide
    omega
  have hv : τ.ival 12 = 7 → bitI (τ.ival 2) 7 = true ∧ 0 < τ.ival 10 ∧ ∀ u, u < 8 → bitI (τ.ival 2) u = true → 0 < τ.ival (3 + u) → τ.ival (3 + u) ≤ τ.ival 10 := fun h => by
    rcases hc with ⟨e1, _⟩ | ⟨v, hv, e1, h1⟩
    · omega
    · obtain rfl : v = 7 := by omega
      exact h1
  have ebit : τ.bval 53 = !bitI (τ.ival 2) 7 := by rw [e53, e52, e51]; exact bit0 rfl a2.1
  refine ⟨⟨fun hF => ?_, ⟨fun hF => ?_, ⟨fun hF => ?_, fun hF => ?_⟩⟩⟩, fun hF => ?_⟩
  · have h : τ.bval 14 = true := hF.1
    have h2 : τ.ival 12 = 7 := hF.2.2.1
    rw [e14, h13, h2] at h
    cases h
  · have h : τ.bval 53 = true := hF.1
    have h2 : τ.ival 12 = 7 := hF.2.2.2.1
    rw [ebit, (hv h2).1] at h
    cases h
  · have h : τ.bval 54 = true := hF.1
    have h2 : τ.ival 12 = 7 := hF.2.2.2.2.1
    rw [e54, decide_eq_true_eq] at h
    have := g4 7 (by decide) (hv h2).1 (hv h2).2.1
    replace this : τ.ival 10 ≤ τ.ival 1 := this
    omega
  · have h2 : τ.ival 12 = 7 := hF.2.2.2.2.1
    obtain ⟨b1, b2, b3⟩ := hv h2
    have bl : ∀ u, u < 8 → bitI (τ.ival 55) u = (bitI (τ.ival 2) u && !(Nat.beq u 7)) := fun u hu => by rw [e55]; exact clr7 _ a2 u hu
    have pp : pop (bitI (τ.ival 55)) + 1 = pop (bitI (τ.ival 2)) := by
      unfold pop
      rw [bl 0 (by decide), bl 1 (by decide), bl 2 (by decide), bl 3 (by decide), bl 4 (by decide), bl 5 (by decide), bl 6 (by decide), bl 7 (by decide)]
      simp only [show ∀ b : Bool, (b && !Nat.beq 7 7) = false from fun b => by cases b <;> rfl, show ∀ b : Bool, (b && !Nat.beq 0 7) = b from fun b => by cases b <;> rfl, show ∀ b : Bool, (b && !Nat.beq 1 7) = b from fun b => by cases b <;> rfl, show ∀ b : Bool, (b && !Nat.beq 2 7) = b from fun b => by cases b <;> rfl, show ∀ b : Bool, (b && !Nat.beq 3 7) = b from fun b => by cases b <;> rfl, show ∀ b : Bool, (b && !Nat.beq 4 7) = b from fun b => by cases b <;> rfl, show ∀ b : Bool, (b && !Nat.beq 5 7) = b from fun b => by cases b <;> rfl, show ∀ b : Bool, (b && !Nat.beq 6 7) = b from fun b => by cases b <;> rfl, b1, cond_true, cond_false]
      omega
    have ei : τ.ival 20 = τ.ival 0 + 1 := by rw [e20]; exact w64 (by omega) (by omega)
    refine Or.inl ⟨rfl, rfl, insOk_asg e hin 12 (by kernel_rfl), ⟨prOk_of (σ := τ) (j := 3) rfl rfl rfl rfl rfl rfl rfl rfl g1, ?_, ?_, ?_⟩, ht, ?_⟩
    · show 0 ≤ τ.ival 20; omega
    · show τ.ival 20 + pop (bitI (τ.ival 55)) ≤ 8; omega
    · intro u hu hb hp
      replace hb : bitI (τ.ival 55) u = true := hb
      rw [bl u hu, Bool.and_eq_true] at hb
      match u, hu, hb, hp with
      | 0, _, hb, hp => exact b3 0 (by decide) hb.1 hp
      | 1, _, hb, hp => exact b3 1 (by decide) hb.1 hp
      | 2, _, hb, hp => exact b3 2 (by decide) hb.1 hp
      | 3, _, hb, hp => exact b3 3 (by decide) hb.1 hp
      | 4, _, hb, hp => exact b3 4 (by decide) hb.1 hp
      | 5, _, hb, hp => exact b3 5 (by decide) hb.1 hp
      | 6, _, hb, hp => exact b3 6 (by decide) hb.1 hp
      | 7, _, hb, hp => exact b3 7 (by decide) hb.1 hp
      | u + 8, hu, _, _ => exact absurd hu (by omega)
    · show (9 - τ.ival 20).toNat < (9 - τ.ival 0).toNat; omega
  · have h : τ.bval 11 = false := hF.1
    rw [e11, decide_eq_false_iff_not] at h
    omega

set_option maxRecDepth 100000 in
theorem ikN_ob {W0 : World} {Z : Exit → Act → World → Prop} (τ : Sig) (e : Eqs τ 11 ikNG) (ht : τ.tab = (tabOf ckFs)) (hin : InsOk τ 11 ikK8) (hj : J8 τ) : segsW τ (ikNQ W0 Z τ) ikNW [] := by
  have e11 : τ.bval 11 = decide (τ.ival 0 < 9) := eqB (e.at 0 _ rfl rfl) rfl
  have e14 : τ.bval 14 = (!τ.bval 13) := eqB (e.at 3 _ rfl rfl) rfl
  obtain ⟨hr, h13, hc⟩ := ikN_main τ e ht hj
  obtain ⟨g1, g2, g3, g4⟩ := id hj
  have pn : 0 ≤ pop (bitI (τ.ival 2)) := by
    unfold pop
    have q0 : 0 ≤ (bif bitI (τ.ival 2) 0 then (1 : Int) else 0) := by cases bitI (τ.ival 2) 0 <;> decide
    have q1 : 0 ≤ (bif bitI (τ.ival 2) 1 then (1 : Int) else 0) := by cases bitI (τ.ival 2) 1 <;> decide
    have q2 : 0 ≤ (bif bitI (τ.ival 2) 2 then (1 : Int) else 0) := by cases bitI (τ.ival 2) 2 <;> decide
    have q3 : 0 ≤ (bif bitI (τ.ival 2) 3 then (1 : Int) else 0) := by cases bitI (τ.ival 2) 3 <;> decide
    have q4 : 0 ≤ (bif bitI (τ.ival 2) 4 then (1 : Int) else 0) := by cases bitI (τ.ival 2) 4 <;> decide
    have q5 : 0 ≤ (bif bitI (τ.ival 2) 5 then (1 : Int) else 0) := by cases bitI (τ.ival 2) 5 <;> decide
    have q6 : 0 ≤ (bif bitI (τ.ival 2) 6 then (1 : Int) else 0) := by cases bitI (τ.ival 2) 6 <;> decide
    have q7 : 0 ≤ (bif bitI (τ.ival 2) 7 then (1 : Int) else 0) := by cases bitI (τ.ival 2) 7 <;> decide
    omega
  have n11 : τ.bval 11 = false → False := fun h => by rw [e11, decide_eq_false_iff_not] at h; omega
  have n14 : τ.bval 14 = false → 0 ≤ τ.ival 12 := fun h => by rw [e14, h13, Bool.not_eq_false', decide_eq_true_eq] at h; exact h
  refine ⟨ikN_0 τ e ht hin hj, ⟨ikN_1 τ e ht hin hj, ⟨ikN_2 τ e ht hin hj, ⟨ikN_3 τ e ht hin hj, ⟨ikN_4 τ e ht hin hj, ⟨ikN_5 τ e ht hin hj, ⟨ikN_6 τ e ht hin hj, ⟨ikN_7 τ e ht hin hj, ⟨⟨fun hF => ?_, ⟨fun hF => ?_, fun hF => ?_⟩⟩, fun hF => n11 hF.1⟩⟩⟩⟩⟩⟩⟩⟩⟩
  · have h : τ.bval 14 = true := hF.1
    rw [e14, h13, Bool.not_eq_true', decide_eq_false_iff_not] at h
    rcases hc with ⟨_, hz⟩ | ⟨v, _, e1, _⟩
    · exact Or.inr (Or.inl ⟨rfl, rfl, insOk_asg e hin 12 (by kernel_rfl), J9_of (σ := τ) (j := 3) hz rfl rfl rfl rfl rfl rfl rfl rfl rfl, ht⟩)
    · omega
  · have h := n14 hF.1
    simp only [Holds, Fact.holds] at hF
    omega
  · have h := n14 hF.1
    simp only [Holds, Fact.holds] at hF
    omega

set_option maxRecDepth 100000 in
theorem ikO_ob {W0 : World} {Z : Exit → Act → World → Prop} {X : Fz} {k : Nat} (τ : Sig) (e : Eqs τ 9 ikOG) (ht : τ.tab = (tabOf ckFs)) (hin : InsOk τ 9 ikK9) (hj : J9 τ) : segsW τ (fun x s σ2 => (x = .normal ∧ s = ikS10 ∧ InsOk σ2 10 ikK10 ∧ J10 σ2 ∧ σ2.tab = (tabOf ckFs)) ∨ (x ≠ .normal ∧ EndZ (tabOf ckFs) 245 W0 Z x s σ2)) ikOW [] := by
  exact fun hF => .inl ⟨rfl, rfl, insOk_asg e hin 12 (by kernel_rfl), ⟨J9_of (σ := τ) (j := 1) hj rfl rfl rfl rfl rfl rfl rfl rfl rfl, by show (0 : Int) ≤ 0; decide, by show (0 : Int) ≤ 8; decide⟩, ht⟩

def ikQQ (W0 : World) (Z : Exit → Act → World → Prop) (τ : Sig) : SEx → Shape → Sig → Prop := fun x s σ2 => (x = .normal ∧ s = ikS10 ∧ InsOk σ2 10 ikK10 ∧ J10 σ2 ∧ σ2.tab = (tabOf ckFs) ∧ (fun σ : Sig => (8 - σ.ival 9).toNat) σ2 < (fun σ : Sig => (8 - σ.ival 9).toNat) τ) ∨ (x = .exit 9 ∧ s = ikS11 ∧ InsOk σ2 1 [some .u8] ∧ True ∧ σ2.tab = (tabOf ckFs)) ∨ (x = .ret ∧ EndZ (tabOf ckFs) 245 W0 Z x s σ2)
def ikQ_s0 : Sv := .node 12 (.node 13 (.dead) (.leaf .normal ikS10 ikFf ikA6 [])) (.leaf .normal ikS10 ikFf ikA6 [])
set_option maxRecDepth 100000 in
theorem ikQ_0 {W0 : World} {Z : Exit → Act → World → Prop} (τ : Sig) (e : Eqs τ 10 ikQG) (ht : τ.tab = (tabOf ckFs)) (hin : InsOk τ 10 ikK10) (hj : J10 τ) : segs τ (ikQQ W0 Z τ) ikQ_s0 [.isn 9 0] := by
  have e10 : τ.ival 10 = ((τ.ival 0 : Int).fdiv (2 ^ (min (0 : Int).toNat IntKind.u8.bits))) := eqI (e.at 0 _ rfl rfl) rfl
  have e11 : τ.ival 11 = ((τ.ival 10 : Int).tmod 2) := eqI (e.at 1 _ rfl rfl) rfl
  have e12 : τ.bval 12 = (τ.ival 11 == 1) := eqB (e.at 2 _ rfl rfl) rfl
  have e13 : τ.bval 13 = decide (τ.ival 1 > 0) := eqB (e.at 3 _ rfl rfl) rfl
  have a0 := u8_range (hin 0 .u8 (by decide) rfl)
  have ebit : τ.bval 12 = bitI (τ.ival 0) 0 := by rw [e12, e11, e10]; exact bitB rfl a0.1
  refine ⟨⟨fun hF => ?_, fun hF => Or.inl ⟨rfl, rfl, insOk_asg e hin 12 (by kernel_rfl), ⟨J9_of (σ := τ) (j := 1) hj.1 rfl rfl rfl rfl rfl rfl rfl rfl rfl, by show (0 : Int) ≤ 1; decide, by show (1 : Int) ≤ 8; decide⟩, ht, by have h9 : τ.ival 9 = 0 := hF.2.2.1; show (8 - (1 : Int)).toNat < (8 - τ.ival 9).toNat; rw [h9]; decide⟩⟩, fun hF => Or.inl ⟨rfl, rfl, insOk_asg e hin 12 (by kernel_rfl), ⟨J9_of (σ := τ) (j := 1) hj.1 rfl rfl rfl rfl rfl rfl rfl rfl rfl, by show (0 : Int) ≤ 1; decide, by show (1 : Int) ≤ 8; decide⟩, ht, by have h9 : τ.ival 9 = 0 := hF.2.1; show (8 - (1 : Int)).toNat < (8 - τ.ival 9).toNat; rw [h9]; decide⟩⟩
  have h1 : τ.bval 12 = true := hF.2.1
  have h2 : τ.bval 13 = true := hF.1
  rw [ebit] at h1
  rw [e13, decide_eq_true_eq] at h2
  have := hj.1 0 (by decide) h1
  replace this : τ.ival 1 ≤ 0 := this
  omega

def ikQ_s1 : Sv := .node 16 (.node 17 (.dead) (.leaf .normal ikS10 ikFf ikA7 [])) (.leaf .normal ikS10 ikFf ikA7 [])
set_option maxRecDepth 100000 in
theorem ikQ_1 {W0 : World} {Z : Exit → Act → World → Prop} (τ : Sig) (e : Eqs τ 10 ikQG) (ht : τ.tab = (tabOf ckFs)) (hin : InsOk τ 10 ikK10) (hj : J10 τ) : segs τ (ikQQ W0 Z τ) ikQ_s1 [.isn 9 1, .non 9 0] := by
  have e14 : τ.ival 14 = ((τ.ival 0 : Int).fdiv (2 ^ (min (1 : Int).toNat IntKind.u8.bits))) := eqI (e.at 4 _ rfl rfl) rfl
  have e15 : τ.ival 15 = ((τ.ival 14 : Int).tmod 2) := eqI (e.at 5 _ rfl rfl) rfl
  have e16 : τ.bval 16 = (τ.ival 15 == 1) := eqB (e.at 6 _ rfl rfl) rfl
  have e17 : τ.bval 17 = decide (τ.ival 2 > 0) := eqB (e.at 7 _ rfl rfl) rfl
  have a0 := u8_range (hin 0 .u8 (by decide) rfl)
  have ebit : τ.bval 16 = bitI (τ.ival 0) 1 := by rw [e16, e15, e14]; exact bitB rfl a0.1
  refine ⟨⟨fun hF => ?_, fun hF => Or.inl ⟨rfl, rfl, insOk_asg e hin 12 (by kernel_rfl), ⟨J9_of (σ := τ) (j := 1) hj.1 rfl rfl rfl rfl rfl rfl rfl rfl rfl, by show (0 : Int) ≤ 2; decide, by show (2 : Int) ≤ 8; decide⟩, ht, by have h9 : τ.ival 9 = 1 := hF.2.2.1; show (8 - (2 : Int)).toNat < (8 - τ.ival 9).toNat; rw [h9]; decide⟩⟩, fun hF => Or.inl ⟨rfl, rfl, insOk_asg e hin 12 (by kernel_rfl), ⟨J9_of (σ := τ) (j := 1) hj.1 rfl rfl rfl rfl rfl rfl rfl rfl rfl, by show (0 : Int) ≤ 2; decide, by show (2 : Int) ≤ 8; decide⟩, ht, by have h9 : τ.ival 9 = 1 := hF.2.1; show (8 - (2 : Int)).toNat < (8 - τ.ival 9).toNat; rw [h9]; decide⟩⟩
  have h1 : τ.bval 16 = true := hF.2.1
  have h2 : τ.bval 17 = true := hF.1
  rw [ebit] at h1
  rw [e17, decide_eq_true_eq] at h2
  have := hj.1 1 (by decide) h1
  replace this : τ.ival 2 ≤ 0 := this
  omega

def ikQ_s2 : Sv := .node 20 (.node 21 (.dead) (.leaf .normal ikS10 ikFf ikA8 [])) (.leaf .normal ikS10 ikFf ikA8 [])
set_option maxRecDepth 100000 in
theorem ikQ_2 {W0 : World} {Z : Exit → Act → World → Prop} (τ : Sig) (e : Eqs τ 10 ikQG) (ht : τ.tab = (tabOf ckFs)) (hin : InsOk τ 10 ikK10) (hj : J10 τ) : segs τ (ikQQ W0 Z τ) ikQ_s2 [.isn 9 2, .non 9 1, .non 9 0] := by
  have e18 : τ.ival 18 = ((τ.ival 0 : Int).fdiv (2 ^ (min (2 : Int).toNat IntKind.u8.bits))) := eqI (e.at 8 _ rfl rfl) rfl
  have e19 : τ.ival 19 = ((τ.ival 18 : Int).tmod 2) := eqI (e.at 9 _ rfl rfl) rfl
  have e20 : τ.bval 20 = (τ.ival 19 == 1) := eqB (e.at 10 _ rfl rfl) rfl
  have e21 : τ.bval 21 = decide (τ.ival 3 > 0) := eqB (e.at 11 _ rfl rfl) rfl
  have a0 := u8_range (hin 0 .u8 (by decide) rfl)
  have ebit : τ.bval 20 = bitI (τ.ival 0) 2 := by rw [e20, e19, e18]; exact bitB rfl a0.1
  refine ⟨⟨fun hF => ?_, fun hF => Or.inl ⟨rfl, rfl, insOk_asg e hin 12 (by kernel_rfl), ⟨J9_of (σ := τ) (j := 1) hj.1 rfl rfl rfl rfl rfl rfl rfl rfl rfl, by show (0 : Int) ≤ 3; decide, by show (3 : Int) ≤ 8; decide⟩, ht, by have h9 : τ.ival 9 = 2 := hF.2.2.1; show (8 - (3 : Int)).toNat < (8 - τ.ival 9).toNat; rw [h9]; decide⟩⟩, fun hF => Or.inl ⟨rfl, rfl, insOk_asg e hin 12 (by kernel_rfl), ⟨J9_of (σ := τ) (j := 1) hj.1 rfl rfl rfl rfl rfl rfl rfl rfl rfl, by show (0 : Int) ≤ 3; decide, by show (3 : Int) ≤ 8; decide⟩, ht, by have h9 : τ.ival 9 = 2 := hF.2.1; show (8 - (3 : Int)).toNat < (8 - τ.ival 9).toNat; rw [h9]; decide⟩⟩
  have h1 : τ.bval 20 = true := hF.2.1
  have h2 : τ.bval 21 = true := hF.1
  rw [ebit] at h1
  rw [e21, decide_eq_true_eq] at h2
  have := hj.1 2 (by decide) h1
  replace this : τ.ival 3 ≤ 0 := this
  omega

def ikQ_s3 : Sv := .node 24 (.node 25 (.dead) (.leaf .normal ikS10 ikFf ikA9 [])) (.leaf .normal ikS10 ikFf ikA9 [])
set_option maxRecDepth 100000 in
theorem ikQ_3 {W0 : World} {Z : Exit → Act → World → Prop} (τ : Sig) (e : Eqs τ 10 ikQG) (ht : τ.tab = (tabOf ckFs)) (hin : InsOk τ 10 ikK10) (hj : J10 τ) : segs τ (ikQQ W0 Z τ) ikQ_s3 [.isn 9 3, .non 9 2, .non 9 1, .non 9 0] := by
  have e22 : τ.ival 22 = ((τ.ival 0 : Int).fdiv (2 ^ (min (3 : Int).toNat IntKind.u8.bits))) := eqI (e.at 12 _ rfl rfl) rfl
  have e23 : τ.ival 23 = ((τ.ival 22 : Int).tmod 2) := eqI (e.at 13 _ rfl rfl) rfl
  have e24 : τ.bval 24 = (τ.ival 23 == 1) := eqB (e.at 14 _ rfl rfl) rfl
  have e25 : τ.bval 25 = decide (τ.ival 4 > 0) := eqB (e.at 15 _ rfl rfl) rfl
  have a0 := u8_range (hin 0 .u8 (by decide) rfl)
  have ebit : τ.bval 24 = bitI (τ.ival 0) 3 := by rw [e24, e23, e22]; exact bitB rfl a0.1
  refine ⟨⟨fun hF => ?_, fun hF => Or.inl ⟨rfl, rfl, insOk_asg e hin 12 (by kernel_rfl), ⟨J9_of (σ := τ) (j := 1) hj.1 rfl rfl rfl rfl rfl rfl rfl rfl rfl, by show (0 : Int) ≤ 4; decide, by show (4 : Int) ≤ 8; decide⟩, ht, by have h9 : τ.ival 9 = 3 := hF.2.2.1; show (8 - (4 : Int)).toNat < (8 - τ.ival 9).toNat; rw [h9]; decide⟩⟩, fun hF => Or.inl ⟨rfl, rfl, insOk_asg e hin 12 (by kernel_rfl), ⟨J9_of (σ := τ) (j := 1) hj.1 rfl rfl rfl rfl rfl rfl rfl rfl rfl, by show (0 : Int) ≤ 4; decide, by show (4 : Int) ≤ 8; decide⟩, ht, by have h9 : τ.ival 9 = 3 := hF.2.1; show (8 - (4 : Int)).toNat < (8 - τ.ival 9).toNat; rw [h9]; decide⟩⟩
  have h1 : τ.bval 24 = true := hF.2.1
  have h2 : τ.bval 25 = true := hF.1
  rw [ebit] at h1
  rw [e25, decide_eq_true_eq] at h2
  have := hj.1 3 (by decide) h1
  replace this : τ.ival 4 ≤ 0 := this
  omega

def ikQ_s4 : Sv := .node 28 (.node 29 (.dead) (.leaf .normal ikS10 ikFf ikA10 [])) (.leaf .normal ikS10 ikFf ikA10 [])
set_option maxRecDepth 100000 in
theorem ikQ_4 {W0 : World} {Z : Exit → Act → World → Prop} (τ : Sig) (e : Eqs τ 10 ikQG) (ht : τ.tab = (tabOf ckFs)) (hin : InsOk τ 10 ikK10) (hj : J10 τ) : segs τ (ikQQ W0 Z τ) ikQ_s4 [.isn 9 4, .non 9 3, .non 9 2, .non 9 1, .non 9 0] := by
  have e26 : τ.ival 26 = ((τ.ival 0 : Int).fdiv (2 ^ (min (4 : Int).toNat IntKind.u8.bits))) := eqI (e.at 16 _ rfl rfl) rfl
  have e27 : τ.ival 27 = ((τ.ival 26 : Int).tmod 2) := eqI (e.at 17 _ rfl rfl) rfl
  have e28 : τ.bval 28 = (τ.ival 27 == 1) := eqB (e.at 18 _ rfl rfl) rfl
  have e29 : τ.bval 29 = decide (τ.ival 5 > 0) := eqB (e.at 19 _ rfl rfl) rfl
  have a0 := u8_range (hin 0 .u8 (by decide) rfl)
  have ebit : τ.bval 28 = bitI (τ.ival 0) 4 := by rw [e28, e27, e26]; exact bitB rfl a0.1
  refine ⟨⟨fun hF => ?_, fun hF => Or.inl ⟨rfl, rfl, insOk_asg e hin 12 (by kernel_rfl), ⟨J9_of (σ := τ) (j := 1) hj.1 rfl rfl rfl rfl rfl rfl rfl rfl rfl, by show (0 : Int) ≤ 5; decide, by show (5 : Int) ≤ 8; decide⟩, ht, by have h9 : τ.ival 9 = 4 := hF.2.2.1; show (8 - (5 : Int)).toNat < (8 - τ.ival 9).toNat; rw [h9]; decide⟩⟩, fun hF => Or.inl ⟨rfl, rfl, insOk_asg e hin 12 (by kernel_rfl), ⟨J9_of (σ := τ) (j := 1) hj.1 rfl rfl rfl rfl rfl rfl rfl rfl rfl, by show (0 : Int) ≤ 5; decide, by show (5 : Int) ≤ 8; decide⟩, ht, by have h9 : τ.ival 9 = 4 := hF.2.1; show (8 - (5 : Int)).toNat < (8 - τ.ival 9).toNat; rw [h9]; decide⟩⟩
  have h1 : τ.bval 28 = true := hF.2.1
  have h2 : τ.bval 29 = true := hF.1
  rw [ebit] at h1
  rw [e29, decide_eq_true_eq] at h2
  have := hj.1 4 (by decide) h1
  replace this : τ.ival 5 ≤ 0 := this
  omega

def ikQ_s5 : Sv := .node 32 (.node 33 (.dead) (.leaf .normal ikS10 ikFf ikA11 [])) (.leaf .normal ikS10 ikFf ikA11 [])
set_option maxRecDepth 100000 in
theorem ikQ_5 {W0 : World} {Z : Exit → Act → World → Prop} (τ : Sig) (e : Eqs τ 10 ikQG) (ht : τ.tab = (tabOf ckFs)) (hin : InsOk τ 10 ikK10) (hj : J10 τ) : segs τ (ikQQ W0 Z τ) ikQ_s5 [.isn 9 5, .non 9 4, .non 9 3, .non 9 2, .non 9 1, .non 9 0] := by
  have e30 : τ.ival 30 = ((τ.ival 0 : Int).fdiv (2 ^ (min (5 : Int).toNat IntKind.u8.bits))) := eqI (e.at 20 _ rfl rfl) rfl
  have e31 : τ.ival 31 = ((τ.ival 30 : Int).tmod 2) := eqI (e.at 21 _ rfl rfl) rfl
  have e32 : τ.bval 32 = (τ.ival 31 == 1) := eqB (e.at 22 _ rfl rfl) rfl
  have e33 : τ.bval 33 = decide (τ.ival 6 > 0) := eqB (e.at 23 _ rfl rfl) rfl
  have a0 := u8_range (hin 0 .u8 (by decide) rfl)
  have ebit : τ.bval 32 = bitI (τ.ival 0) 5 := by rw [e32, e31, e30]; exact bitB rfl a0.1
  refine ⟨⟨fun hF => ?_, fun hF => Or.inl ⟨rfl, rfl, insOk_asg e hin 12 (by kernel_rfl), ⟨J9_of (σ := τ) (j := 1) hj.1 rfl rfl rfl rfl rfl rfl rfl rfl rfl, by show (0 : Int) ≤ 6; decide, by show (6 : Int) ≤ 8; decide⟩, ht, by have h9 : τ.ival 9 = 5 := hF.2.2.1; show (8 - (6 : Int)).toNat < (8 - τ.ival 9).toNat; rw [h9]; decide⟩⟩, fun hF => Or.inl ⟨rfl, rfl, insOk_asg e hin 12 (by kernel_rfl), ⟨J9_of (σ := τ) (j := 1) hj.1 rfl rfl rfl rfl rfl rfl rfl rfl rfl, by show (0 : Int) ≤ 6; decide, by show (6 : Int) ≤ 8; decide⟩, ht, by have h9 : τ.ival 9 = 5 := hF.2.1; show (8 - (6 : Int)).toNat < (8 - τ.ival 9).toNat; rw [h9]; decide⟩⟩
  have h1 : τ.bval 32 = true := hF.2.1
  have h2 : τ.bval 33 = true := hF.1
  rw [ebit] at h1
  rw [e33, decide_eq_true_eq] at h2
  have := hj.1 5 (by decide) h1
  replace this : τ.ival 6 ≤ 0 := this
  omega

def ikQ_s6 : Sv := .node 36 (.node 37 (.dead) (.leaf .normal ikS10 ikFf ikA12 [])) (.leaf .normal ikS10 ikFf ikA12 [])
set_option maxRecDepth 100000 in
theorem ikQ_6 {W0 : World} {Z : Exit → Act → World → Prop} (τ : Sig) (e : Eqs τ 10 ikQG) (ht : τ.tab = (tabOf ckFs)) (hin : InsOk τ 10 ikK10) (hj : J10 τ) : segs τ (ikQQ W0 Z τ) ikQ_s6 [.isn 9 6, .non 9 5, .non 9 4, .non 9 3, .non 9 2, .non 9 1, .non 9 0] := by
  have e34 : τ.ival 34 = ((τ.ival 0 : Int).fdiv (2 ^ (min (6 : Int).toNat IntKind.u8.bits))) := eqI (e.at 24 _ rfl rfl) rfl
  have e35 : τ.ival 35 = ((τ.ival 34 : Int).tmod 2) := eqI (e.at 25 _ rfl rfl) rfl
  have e36 : τ.bval 36 = (τ.ival 35 == 1) := eqB (e.at 26 _ rfl rfl) rfl
  have e37 : τ.bval 37 = decide (τ.ival 7 > 0) := eqB (e.at 27 _ rfl rfl) rfl
  have a0 := u8_range (hin 0 .u8 (by decide) rfl)
  have ebit : τ.bval 36 = bitI (τ.ival 0) 6 := by rw [e36, e35, e34]; exact bitB rfl a0.1
  refine ⟨⟨fun hF => ?_, fun hF => Or.inl ⟨rfl, rfl, insOk_asg e hin 12 (by kernel_rfl), ⟨J9_of (σ := τ) (j := 1) hj.1 rfl rfl rfl rfl rfl rfl rfl rfl rfl, by show (0 : Int) ≤ 7; decide, by show (7 : Int) ≤ 8; decide⟩, ht, by have h9 : τ.ival 9 = 6 := hF.2.2.1; show (8 - (7 : Int)).toNat < (8 - τ.ival 9).toNat; rw [h9]; decide⟩⟩, fun hF => Or.inl ⟨rfl, rfl, insOk_asg e hin 12 (by kernel_rfl), ⟨J9_of (σ := τ) (j := 1) hj.1 rfl rfl rfl rfl rfl rfl rfl rfl rfl, by show (0 : Int) ≤ 7; decide, by show (7 : Int) ≤ 8; decide⟩, ht, by have h9 : τ.ival 9 = 6 := hF.2.1; show (8 - (7 : Int)).toNat < (8 - τ.ival 9).toNat; rw [h9]; decide⟩⟩
  have h1 : τ.bval 36 = true := hF.2.1
  have h2 : τ.bval 37 = true := hF.1
  rw [ebit] at h1
  rw [e37, decide_eq_true_eq] at h2
  have := hj.1 6 (by decide) h1
  replace this : τ.ival 7 ≤ 0 := this
  omega

def ikQ_s7 : Sv := .node 40 (.node 41 (.dead) (.leaf .normal ikS10 ikFf ikA13 [])) (.leaf .normal ikS10 ikFf ikA13 [])
set_option maxRecDepth 100000 in
theorem ikQ_7 {W0 : World} {Z : Exit → Act → World → Prop} (τ : Sig) (e : Eqs τ 10 ikQG) (ht : τ.tab = (tabOf ckFs)) (hin : InsOk τ 10 ikK10) (hj : J10 τ) : segs τ (ikQQ W0 Z τ) ikQ_s7 [.isn 9 7, .non 9 6, .non 9 5, .non 9 4, .non 9 3, .non 9 2, .non 9 1, .non 9 0] := by
  have e38 : τ.ival 38 = ((τ.ival 0 : Int).fdiv (2 ^ (min (7 : Int).toNat IntKind.u8.bits))) := eqI (e.at 28 _ rfl rfl) rfl
  have e39 : τ.ival 39 = ((τ.ival 38 : Int).tmod 2) := eqI (e.at 29 _ rfl rfl) rfl
  have e40 : τ.bval 40 = (τ.ival 39 == 1) := eqB (e.at 30 _ rfl rfl) rfl
  have e41 : τ.bval 41 = decide (τ.ival 8 > 0) := eqB (e.at 31 _ rfl rfl) rfl
  have a0 := u8_range (hin 0 .u8 (by decide) rfl)
  have ebit : τ.bval 40 = bitI (τ.ival 0) 7 := by rw [e40, e39, e38]; exact bitB rfl a0.1
  refine ⟨⟨fun hF => ?_, fun hF => Or.inl ⟨rfl, rfl, insOk_asg e hin 12 (by kernel_rfl), ⟨J9_of (σ := τ) (j := 1) hj.1 rfl rfl rfl rfl rfl rfl rfl rfl rfl, by show (0 : Int) ≤ 8; decide, by show (8 : Int) ≤ 8; decide⟩, ht, by have h9 : τ.ival 9 = 7 := hF.2.2.1; show (8 - (8 : Int)).toNat < (8 - τ.ival 9).toNat; rw [h9]; decide⟩⟩, fun hF => Or.inl ⟨rfl, rfl, insOk_asg e hin 12 (by kernel_rfl), ⟨J9_of (σ := τ) (j := 1) hj.1 rfl rfl rfl rfl rfl rfl rfl rfl rfl, by show (0 : Int) ≤ 8; decide, by show (8 : Int) ≤ 8; decide⟩, ht, by have h9 : τ.ival 9 = 7 := hF.2.1; show (8 - (8 : Int)).toNat < (8 - τ.ival 9).toNat; rw [h9]; decide⟩⟩
  have h1 : τ.bval 40 = true := hF.2.1
  have h2 : τ.bval 41 = true := hF.1
  rw [ebit] at h1
  rw [e41, decide_eq_true_eq] at h2
  have := hj.1 7 (by decide) h1
  replace this : τ.ival 8 ≤ 0 := this
  omega

set_option maxRecDepth 100000 in
theorem ikQ_ob {W0 : World} {Z : Exit → Act → World → Prop} (τ : Sig) (e : Eqs τ 10 ikQG) (ht : τ.tab = (tabOf ckFs)) (hin : InsOk τ 10 ikK10) (hj : J10 τ) : segsW τ (ikQQ W0 Z τ) ikQW [] := by
  refine ⟨ikQ_0 τ e ht hin hj, ⟨ikQ_1 τ e ht hin hj, ⟨ikQ_2 τ e ht hin hj, ⟨ikQ_3 τ e ht hin hj, ⟨ikQ_4 τ e ht hin hj, ⟨ikQ_5 τ e ht hin hj, ⟨ikQ_6 τ e ht hin hj, ⟨ikQ_7 τ e ht hin hj, ⟨fun hF => Or.inr (Or.inl ⟨rfl, rfl, insOk_asg e hin 12 (by kernel_rfl), trivial, ht⟩), fun hF => ?_⟩⟩⟩⟩⟩⟩⟩⟩⟩
  simp only [Holds, Fact.holds] at hF
  have := hj.2
  omega

set_option maxRecDepth 100000 in
theorem walk (W : World) (l0 : List Int) (i0 : InR [.i .u8, .i .u8, .i .u8, .i .u8, .i .u8, .i .u8, .i .u8, .i .u8] l0) (v1 : Value) (X1 : Fz) (r1 : RowV W [.i .u8, .i .u8, .i .u8] v1 X1) :
    Calls Try.prog 3 #[.agg (encCs [.i .u8, .i .u8, .i .u8, .i .u8, .i .u8, .i .u8, .i .u8, .i .u8] l0).toArray, v1] W fun e W' => e = .returned (.bool true) ∧ Below W.heap.size W W' := by
  have hl : InR (cellsOf ikSs) (l0 ++ []) := inR_append i0 rfl
  have hc := calls_of_stageR (P := Try.prog) (f := 3) (fn := Try.f3) (tab := (tabOf ckFs)) (ss := ikSs) (cl := [.i .u8, .i .u8, .i .u8]) (k := 8) (n := 245) (R := (fun e W' => e = .returned (.bool true) ∧ Below W.heap.size W W')) Try.func3 (by kernel_rfl) (by kernel_rfl) rfl (by simp [encS, ikSs]) r1 hl ?_
  · rw [show encS ikSs (l0 ++ []) = [.agg (encCs [.i .u8, .i .u8, .i .u8, .i .u8, .i .u8, .i .u8, .i .u8, .i .u8] l0).toArray] from by
      simp only [ikSs]
      rw [encS_agg i0]
      rfl] at hc
    exact hc
  have c1 : flatC (bodyOf Try.f3) = (flatC (bodyOf Try.f3)).take 9 ++ (.block 2 (.loop (loopAt 9 (bodyOf Try.f3))) :: (((flatC (bodyOf Try.f3)).drop 10).take 3 ++ (.block 7 (.loop (loopAt 13 (bodyOf Try.f3))) :: (((flatC (bodyOf Try.f3)).drop 14).take 1 ++ (.block 9 (.loop (loopAt 15 (bodyOf Try.f3))) :: (flatC (bodyOf Try.f3)).drop 16))))) := by kernel_rfl
  have c2 : flatC (loopAt 9 (bodyOf Try.f3)) = (flatC (loopAt 9 (bodyOf Try.f3))).take 2 ++ (.block 3 (blkAt 2 (loopAt 9 (bodyOf Try.f3))) :: (flatC (loopAt 9 (bodyOf Try.f3))).drop 3) := by kernel_rfl
  have c3 : flatC (blkAt 2 (loopAt 9 (bodyOf Try.f3))) = (flatC (blkAt 2 (loopAt 9 (bodyOf Try.f3)))).take 2 ++ (.block 4 (blkAt 2 (blkAt 2 (loopAt 9 (bodyOf Try.f3)))) :: ((flatC (blkAt 2 (loopAt 9 (bodyOf Try.f3)))).drop 3 ++ [])) := by kernel_rfl
  have c4 : flatC (blkAt 2 (blkAt 2 (loopAt 9 (bodyOf Try.f3)))) = (flatC (blkAt 2 (blkAt 2 (loopAt 9 (bodyOf Try.f3))))).take 2 ++ (.cond (.tmp 133) (yesAt 2 (blkAt 2 (blkAt 2 (loopAt 9 (bodyOf Try.f3))))) (noAt 2 (blkAt 2 (blkAt 2 (loopAt 9 (bodyOf Try.f3))))) :: []) := by kernel_rfl
  have c5 : flatC (noAt 2 (blkAt 2 (blkAt 2 (loopAt 9 (bodyOf Try.f3))))) ++ [] = (flatC (noAt 2 (blkAt 2 (blkAt 2 (loopAt 9 (bodyOf Try.f3)))))).take 1 ++ (.cond (.tmp 143) (yesAt 1 (noAt 2 (blkAt 2 (blkAt 2 (loopAt 9 (bodyOf Try.f3)))))) (noAt 1 (noAt 2 (blkAt 2 (blkAt 2 (loopAt 9 (bodyOf Try.f3)))))) :: []) := by kernel_rfl
  have c6 : flatC (noAt 1 (noAt 2 (blkAt 2 (blkAt 2 (loopAt 9 (bodyOf Try.f3)))))) ++ [] = (flatC (noAt 1 (noAt 2 (blkAt 2 (blkAt 2 (loopAt 9 (bodyOf Try.f3))))))).take 1 ++ (.cond (.tmp 151) (yesAt 1 (noAt 1 (noAt 2 (blkAt 2 (blkAt 2 (loopAt 9 (bodyOf Try.f3))))))) (noAt 1 (noAt 1 (noAt 2 (blkAt 2 (blkAt 2 (loopAt 9 (bodyOf Try.f3))))))) :: []) := by kernel_rfl
  have c7 : flatC (noAt 1 (noAt 1 (noAt 2 (blkAt 2 (blkAt 2 (loopAt 9 (bodyOf Try.f3))))))) ++ [] = (flatC (noAt 1 (noAt 1 (noAt 2 (blkAt 2 (blkAt 2 (loopAt 9 (bodyOf Try.f3)))))))).take 1 ++ (.cond (.tmp 160) (yesAt 1 (noAt 1 (noAt 1 (noAt 2 (blkAt 2 (blkAt 2 (loopAt 9 (bodyOf Try.f3)))))))) (noAt 1 (noAt 1 (noAt 1 (noAt 2 (blkAt 2 (blkAt 2 (loopAt 9 (bodyOf Try.f3)))))))) :: []) := by kernel_rfl
  have c8 : flatC (noAt 1 (noAt 1 (noAt 1 (noAt 2 (blkAt 2 (blkAt 2 (loopAt 9 (bodyOf Try.f3)))))))) ++ [] = (flatC (noAt 1 (noAt 1 (noAt 1 (noAt 2 (blkAt 2 (blkAt 2 (loopAt 9 (bodyOf Try.f3))))))))).take 4 ++ (.block 5 (.loop (loopAt 4 (noAt 1 (noAt 1 (noAt 1 (noAt 2 (blkAt 2 (blkAt 2 (loopAt 9 (bodyOf Try.f3)))))))))) :: ((flatC (noAt 1 (noAt 1 (noAt 1 (noAt 2 (blkAt 2 (blkAt 2 (loopAt 9 (bodyOf Try.f3))))))))).drop 5 ++ [])) := by kernel_rfl
  have fin : Stage Try.prog (tabOf ckFs) 245 W (bodyPost Try.prog Try.f3 (fun e W' => e = .returned (.bool true) ∧ Below W.heap.size W W')) (((flatC (bodyOf Try.f3)).drop 10).take 3 ++ (.block 7 (.loop (loopAt 13 (bodyOf Try.f3))) :: (((flatC (bodyOf Try.f3)).drop 14).take 1 ++ (.block 9 (.loop (loopAt 15 (bodyOf Try.f3))) :: (flatC (bodyOf Try.f3)).drop 16)))) ikSX 10 ikKdX (prOk 2) := by
    refine Stage.seg (q2 := 11) (ins2 := ikK8) (S2 := ikS8) (J2 := J8) ck.mixed ikM_seg ⟨rfl, rfl⟩ (fun σ τ ag h => prOk_agree (by decide) ag h) (fun _ _ => rows_nil) ?_ (fun τ e ht hi hj => ikM_ob (X := X1) (k := 0) τ e ht hi hj)
    refine Stage.loop (q2 := 9) (ins2 := ikK9) (S2 := ikS9) (J2 := J9) (μ := fun σ => (9 - σ.ival 0).toNat) ck.mixed ikN_seg ⟨rfl, rfl⟩ J8_agree (fun σ τ ag => by show (9 - σ.ival 0).toNat = (9 - τ.ival 0).toNat; rw [(ag.val 0 (by decide)).1]) (fun _ _ => rows_nil) ?_ (fun τ e ht hi hj => ikN_ob τ e ht hi hj)
    refine Stage.seg (q2 := 10) (ins2 := ikK10) (S2 := ikS10) (J2 := J10) ck.mixed ikO_seg ⟨rfl, rfl⟩ (J9_agree (by decide)) (fun _ _ => rows_nil) ?_ (fun τ e ht hi hj => ikO_ob (X := X1) (k := 0) τ e ht hi hj)
    refine Stage.loop (q2 := 1) (ins2 := [some .u8]) (S2 := ikS11) (J2 := fun _ => True) (μ := fun σ => (8 - σ.ival 9).toNat) ck.mixed ikQ_seg ⟨rfl, rfl⟩ J10_agree (fun σ τ ag => by show (8 - σ.ival 9).toNat = (8 - τ.ival 9).toNat; rw [(ag.val 9 (by decide)).1]) (fun _ _ => rows_nil) ?_ (fun τ e ht hi hj => ikQ_ob τ e ht hi hj)
    exact Stage.last ck.mixed ikR_seg ⟨rfl, rfl⟩ (fun _ _ _ _ => trivial) (fun _ _ => rows_nil) (fun τ e ht hi _ => fun hF => endZ_res (outs := [.one .b]) (l := [1]) (vs := [.symb 0]) (by kernel_rfl) ⟨rfl, trivial⟩ (.inl rfl))
  rw [c1]
  refine Stage.seg (q2 := 13) (ins2 := ikK1) (S2 := ikS1) (J2 := fun σ => RowHd X1 σ ∧ prOk 5 σ) ck.mixed ikA_seg ⟨rfl, rfl⟩ (fun σ τ ag h => ⟨fun i hi => by rw [← (ag.val i (by omega)).1]; exact h.1 i hi, by rw [← ag.ext]; exact h.2.1, by rw [← (ag.val 8 (by decide)).1]; exact h.2.2⟩) (fun _ h => rows_len h.2.1 h.2.2) ?_ (fun τ e ht hi hj => ikA_ob (k := 0) τ e ht hi hj.2.1 hj.2.2)
  refine Stage.rowLoop r1 (by kernel_rfl) (by decide) (by kernel_rfl) (fun σ τ ag h => prOk_agree (by decide) ag h) fun k => ?_
  rw [c2]
  refine Stage.seg (q2 := 16) (ins2 := ikKe) (S2 := ikS1) (J2 := JE X1 k) ck.mixed ikB_seg ⟨rfl, rfl⟩ (fun σ τ ag h => ⟨h.1.agree ag, prOk_agree (by decide) ag h.2.1, by rw [← (ag.val 0 (by decide)).1]; exact h.2.2⟩) (fun _ h => h.1.rows r1 (by decide)) ?_ (fun τ e ht hi hj => ikB_ob r1 fin τ e ht hi hj.1 hj.2.1 hj.2.2)
  refine Stage.block ?_
  rw [c3]
  refine Stage.seg (q2 := 17) (ins2 := ikK2) (S2 := ikS2) (J2 := JE X1 k) ck.mixed ikC_seg ⟨rfl, rfl⟩ (JE_agree (by decide)) (fun _ h => h.2) ?_ (fun τ e ht hi hj => ikC_ob τ e ht hi hj)
  have after4 : Stage Try.prog (tabOf ckFs) 245 W (BlkZ Try.prog 3 ((flatC (loopAt 9 (bodyOf Try.f3))).drop 3) (LoopZ Try.prog 2 (((flatC (bodyOf Try.f3)).drop 10).take 3 ++ (.block 7 (.loop (loopAt 13 (bodyOf Try.f3))) :: (((flatC (bodyOf Try.f3)).drop 14).take 1 ++ (.block 9 (.loop (loopAt 15 (bodyOf Try.f3))) :: (flatC (bodyOf Try.f3)).drop 16)))) (bodyPost Try.prog Try.f3 (fun e W' => e = .returned (.bool true) ∧ Below W.heap.size W W')) (InvS (tabOf ckFs) 245 W ikS1 13 ikK1 (fun σ => RowHd X1 σ ∧ prOk 5 σ) (fun σ => ((X1.len : Int) - σ.ival 0).toNat)) k)) ((flatC (blkAt 2 (loopAt 9 (bodyOf Try.f3)))).drop 3 ++ []) ikS1 13 ikK1 (JB X1 k) := by
    refine Stage.seg (q2 := 13) (ins2 := ikK1) (S2 := ikS1) (J2 := JB X1 k) ck.mixed ikK_seg ⟨rfl, rfl⟩ (JB_agree (by decide)) (fun _ h => rows_len h.1.1 h.1.2.1) ?_ (fun τ e ht hi hj => ikK_ob τ e ht hi hj)
    have last : Stage Try.prog (tabOf ckFs) 245 W (LoopZ Try.prog 2 (((flatC (bodyOf Try.f3)).drop 10).take 3 ++ (.block 7 (.loop (loopAt 13 (bodyOf Try.f3))) :: (((flatC (bodyOf Try.f3)).drop 14).take 1 ++ (.block 9 (.loop (loopAt 15 (bodyOf Try.f3))) :: (flatC (bodyOf Try.f3)).drop 16)))) (bodyPost Try.prog Try.f3 (fun e W' => e = .returned (.bool true) ∧ Below W.heap.size W W')) (InvS (tabOf ckFs) 245 W ikS1 13 ikK1 (fun σ => RowHd X1 σ ∧ prOk 5 σ) (fun σ => ((X1.len : Int) - σ.ival 0).toNat)) k) ((flatC (loopAt 9 (bodyOf Try.f3))).drop 3) ikS1 13 ikK1 (JB X1 k) := by
      refine Stage.last ck.mixed ikL_seg ⟨rfl, rfl⟩ (JB_agree (by decide)) (fun _ h => rows_len h.1.1 h.1.2.1) fun τ e ht hi hj => fun hF => ?_
      have e13 : τ.ival 13 = IntKind.i64.wrap (τ.ival 0 + 1) := eqI (e.at 0 _ rfl rfl) rfl
      obtain ⟨⟨x1, x2, x3, x4⟩, p, lt, hk⟩ := hj
      have xl := r1.len
      have e0 : τ.ival 13 = τ.ival 0 + 1 := by rw [e13]; exact w64 (by omega) (by omega)
      refine EndZ.loop (insOk_asg e hi 12 (by kernel_rfl)) ⟨⟨x1, x2, ?_, ?_⟩, prOk_of (σ := τ) (j := 5) rfl rfl rfl rfl rfl rfl rfl rfl p⟩ ht ?_
      · show 0 ≤ τ.ival 13; omega
      · show τ.ival 13 ≤ X1.len; omega
      · show ((X1.len : Int) - τ.ival 13).toNat < k; omega
    exact fun a w σ hA hi hj ht => last a w σ hA hi hj ht
  refine Stage.block ?_
  rw [c4]
  refine Stage.seg (q2 := 18) (ins2 := ikK3) (S2 := ikS3) (J2 := JE X1 k) ck.mixed ikD_seg ⟨rfl, rfl⟩ (JE_agree (by decide)) (fun _ h => h.2) ?_ (fun τ e ht hi hj => ikD_ob τ e ht hi hj)
  have ag18 : ∀ (bb : Bool) (σ τ : Sig), Agree 18 σ τ → (JE X1 k σ ∧ σ.bval 17 = bb) → JE X1 k τ ∧ τ.bval 17 = bb := fun bb σ τ ag h => ⟨JE_agree (by decide) σ τ ag h.1, by rw [← (ag.val 17 (by decide)).2.1]; exact h.2⟩
  refine Stage.cond (k := 17) (by simp [ikS3]) ?_ ?_
  · refine Stage.seg (q2 := 13) (ins2 := ikK1) (S2 := ikS1) (J2 := JB X1 k) ck.mixed ikE_seg ⟨rfl, rfl⟩ (ag18 true) (fun _ h => h.1.2) ?_ (fun τ e ht hi hj => ikE_ob τ e ht hi hj.1)
    exact fun a w σ hA hi hj ht => after4 a w σ hA hi hj ht
  rw [c5]
  refine Stage.seg (q2 := 18) (ins2 := ikK3) (S2 := (ikS4 143)) (J2 := JE X1 k) ck.mixed ikF1_seg ⟨rfl, rfl⟩ (ag18 false) (fun _ h => h.1.2) ?_ (fun τ e ht hi hj => ikF1_ob τ e ht hi hj.1)
  refine Stage.cond (k := 17) (by simp [ikS4]) ?_ ?_
  · refine Stage.seg (q2 := 13) (ins2 := ikK1) (S2 := ikS1) (J2 := JB X1 k) ck.mixed ikG1_seg ⟨rfl, rfl⟩ (ag18 true) (fun _ h => h.1.2) ?_ (fun τ e ht hi hj => ikG1_ob τ e ht hi hj.1)
    exact fun a w σ hA hi hj ht => after4 a w σ hA hi hj ht
  rw [c6]
  refine Stage.seg (q2 := 18) (ins2 := ikK3) (S2 := (ikS4 151)) (J2 := JE X1 k) ck.mixed ikF2_seg ⟨rfl, rfl⟩ (ag18 false) (fun _ h => h.1.2) ?_ (fun τ e ht hi hj => ikF2_ob τ e ht hi hj.1)
  refine Stage.cond (k := 17) (by simp [ikS4]) ?_ ?_
  · refine Stage.seg (q2 := 13) (ins2 := ikK1) (S2 := ikS1) (J2 := JB X1 k) ck.mixed ikG2_seg ⟨rfl, rfl⟩ (ag18 true) (fun _ h => h.1.2) ?_ (fun τ e ht hi hj => ikG2_ob τ e ht hi hj.1)
    exact fun a w σ hA hi hj ht => after4 a w σ hA hi hj ht
  rw [c7]
  refine Stage.seg (q2 := 18) (ins2 := ikK3) (S2 := (ikS4 160)) (J2 := JE X1 k) ck.mixed ikF3_seg ⟨rfl, rfl⟩ (ag18 false) (fun _ h => h.1.2) ?_ (fun τ e ht hi hj => ikF3_ob τ e ht hi hj.1)
  refine Stage.cond (k := 17) (by simp [ikS4]) ?_ ?_
  · refine Stage.seg (q2 := 13) (ins2 := ikK1) (S2 := ikS1) (J2 := JB X1 k) ck.mixed ikG3_seg ⟨rfl, rfl⟩ (ag18 true) (fun _ h => h.1.2) ?_ (fun τ e ht hi hj => ikG3_ob τ e ht hi hj.1)
    exact fun a w σ hA hi hj ht => after4 a w σ hA hi hj ht
  rw [c8]
  refine Stage.seg (q2 := 18) (ins2 := ikK6) (S2 := ikS6) (J2 := J6 X1 k) ck.mixed ikH_seg ⟨rfl, rfl⟩ (ag18 false) (fun _ h => h.1.2) ?_ (fun τ e ht hi hj => ikH_ob τ e ht hi hj.1)
  refine Stage.loop (q2 := 15) (ins2 := ikK7) (S2 := ikS7) (J2 := J7 X1 k) (μ := fun σ => (8 - σ.ival 17).toNat) ck.mixed ikI_seg ⟨rfl, rfl⟩ J6_agree (fun σ τ ag => by show (8 - σ.ival 17).toNat = (8 - τ.ival 17).toNat; rw [(ag.val 17 (by decide)).1]) (fun _ h => rows_len h.1.1.1 h.1.1.2.1) ?_ (fun τ e ht hi hj => ikI_ob τ e ht hi hj)
  refine Stage.seg (q2 := 13) (ins2 := ikK1) (S2 := ikS1) (J2 := JB X1 k) ck.mixed ikJ_seg ⟨rfl, rfl⟩ J7_agree (fun _ h => rows_len h.1.1.1 h.1.1.2.1) ?_ (fun τ e ht hi hj => ikJ_ob τ e ht hi hj)
  exact fun a w σ hA hi hj ht => after4 a w σ hA hi hj ht
end Go.Proofs.Ytgifnmiggloclab.ik
