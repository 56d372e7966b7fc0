/-
  WireReads: the round of its loop, reckoned.
  No conditions.
-/
import Derived.Test.YtapfkgenachpgaaDoorChecked
import Derived.WalkKit
import Derived.Below
import Derived.ChangeSame
import Derived.Test.YtapfkgenachpgaaDoorWra
namespace Go.Proofs.YtapfkgenachpgaaDoor.wr
open Go.RowKit
open Go.Ev Go.Proofs.YtapfkgenachpgaaDoor.fa Go.Proofs.YtapfkgenachpgaaDoor.wn
set_option linter.unusedVariables false
set_option linter.unusedSimpArgs false

set_option maxRecDepth 100000 in
def wrB1G : List SDef := [.sop .len [.syms 3],
  .bin .leq (.int .i64 0) (.symi .i64 2),
  .bin .leq (.symi .i64 2) (.symi .i64 8),
  .bin .leq (.symi .i64 8) (.int .i64 1000000),
  .bin .lss (.symi .i64 0) (.symi .i64 1),
  .bin .lss (.symi .i64 0) (.int .i64 50),
  .bin .leq (.int .i64 0) (.symi .i64 0),
  .bin .rem (.symi .u8 6) (.int .u8 16),
  .bin .eql (.symi .u8 15) (.int .u8 1),
  .bin .eql (.symi .u8 15) (.int .u8 2),
  .bin .eql (.symi .u8 15) (.int .u8 3),
  .bin .eql (.symi .u8 15) (.int .u8 4),
  .bin .eql (.symi .u8 15) (.int .u8 5),
  .bin .eql (.symi .u8 15) (.int .u8 6),
  .bin .eql (.symi .u8 15) (.int .u8 7),
  .bin .eql (.symi .u8 15) (.int .u8 8),
  .bin .neq (.symi .i64 4) (.int .i64 0),
  .bin .eql (.symi .i64 4) (.int .i64 0),
  .bin .sub (.symi .i64 8) (.symi .i64 2),
  .bin .eql (.symi .i64 4) (.symi .i64 4),
  .un .not (.symb 27),
  .bin .add (.symi .i64 0) (.int .i64 1),
  .conv .i64 (.symi .i16 7),
  .bin .rem (.symi .i16 7) (.int .i16 30),
  .conv .i64 (.symi .i16 31)]
set_option maxRecDepth 100000 in
def wrB1T : LT := .n (.n (.n (.n (.n (.e) 30227 14 (.bin .leq (.int .i64 0) (.symi .i64 0)) (.e)) 60352 29 (.bin .add (.symi .i64 0) (.int .i64 1)) (.n (.e) 2512158 13 (.bin .lss (.symi .i64 0) (.int .i64 50)) (.e))) 343384000 12 (.bin .lss (.symi .i64 0) (.symi .i64 1)) (.n (.n (.e) 377146970 11 (.bin .leq (.symi .i64 8) (.int .i64 1000000)) (.e)) 404011606 25 (.bin .eql (.symi .i64 4) (.int .i64 0)) (.e))) 404011613 24 (.bin .neq (.symi .i64 4) (.int .i64 0)) (.n (.n (.n (.e) 420998091 26 (.bin .sub (.symi .i64 8) (.symi .i64 2)) (.e)) 441323147 16 (.bin .eql (.symi .u8 15) (.int .u8 1)) (.e)) 441373182 17 (.bin .eql (.symi .u8 15) (.int .u8 2)) (.n (.n (.e) 441423217 18 (.bin .eql (.symi .u8 15) (.int .u8 3)) (.e)) 441473252 19 (.bin .eql (.symi .u8 15) (.int .u8 4)) (.e)))) 441523287 20 (.bin .eql (.symi .u8 15) (.int .u8 5)) (.n (.n (.n (.n (.e) 441573322 21 (.bin .eql (.symi .u8 15) (.int .u8 6)) (.e)) 441623357 22 (.bin .eql (.symi .u8 15) (.int .u8 7)) (.n (.e) 441673392 23 (.bin .eql (.symi .u8 15) (.int .u8 8)) (.e))) 501025623 8 (.sop .len [.syms 3]) (.n (.n (.e) 579607063 28 (.un .not (.symb 27)) (.e)) 606812723 15 (.bin .rem (.symi .u8 6) (.int .u8 16)) (.e))) 686737383 9 (.bin .leq (.int .i64 0) (.symi .i64 2)) (.n (.n (.n (.e) 703704105 27 (.bin .eql (.symi .i64 4) (.symi .i64 4)) (.e)) 708513516 31 (.bin .rem (.symi .i16 7) (.int .i16 30)) (.e)) 721002495 30 (.conv .i64 (.symi .i16 7)) (.n (.n (.e) 801376005 10 (.bin .leq (.symi .i64 2) (.symi .i64 8)) (.e)) 1045526257 32 (.conv .i64 (.symi .i16 31)) (.e))))
set_option maxRecDepth 100000 in
def wrB1Kd : KdT := .n (.n (.n (.n (.n (.n .e (some .i16) .e) (some .u8) .e) (some .i16) (.n .e none .e)) none (.n (.n .e none .e) none (.n .e none .e))) (some .i64) (.n (.n (.n .e none .e) none (.n .e none .e)) (some .i64) (.n (.n .e none .e) none (.n .e (some .i64) .e)))) (some .i64) (.n (.n (.n (.n (.n .e (some .i64) .e) none .e) none (.n .e none .e)) (some .i64) (.n (.n .e none .e) none (.n .e none .e))) (some .i64) (.n (.n (.n .e none .e) none (.n .e (some .i64) .e)) (some .u8) (.n (.n .e none .e) none (.n .e (some .i64) .e))))
noncomputable def wrB1Y : Ing := { m := 8, ins := wrKe, G := wrB1G, T := wrB1T, hook := tblHook (tabOf wnFs) wnTbl, tab := tabOf wnFs, rows := wrR, inv := OwnInv 0 isErr, kb := 33, kt := wrB1Kd }
noncomputable def wrB1X : Ing := { wrB1Y with mh := orMh (asMh Tryd.prog 45 74 76 46 40) (symMf (kdX wrB1Y) [sf48, sf44]) }
theorem wrB1_lt : okLT 8 wrB1G wrB1T = true := by kernel_rfl
theorem wrB1_kt : okKt wrB1X = true := by kernel_rfl
theorem wrB1_ok : okG wrB1G 8 = true := by kernel_rfl
theorem wrB1_hooks (F : List Fact) : Hooks Tryd.prog (cxOf wrB1X F) where
  val := fun f args v h hp => wn_hooks (X := wrB1X) rfl rfl wrB1_lt F f args v h hp
  mem := fun f args hp v hp' h => by
    replace h : orMh (asMh Tryd.prog 45 74 76 46 40) (symMf (kdX wrB1Y) [sf48, sf44]) (symS (baseOf wrB1X F)) f args hp = some (v, hp') := h
    unfold orMh at h
    split at h
    · rename_i r hr
      cases h
      exact as_mem0 (X := wrB1X) wrB1_lt as_ok is_ok (fun _ h => h) F f args hp v hp' hr
    · exact mem_symF (X := wrB1X) (tbl := [sf48, sf44]) (inv := fun _ => True) (fun e he => by
        simp only [List.mem_cons, List.not_mem_nil, or_false] at he
        rcases he with rfl | rfl
        · exact wn48_contract
        · exact wn44_contract) wrB1_lt rfl (fun _ _ _ _ => trivial) F f args hp v hp' h
  ovl := fun f k h => by simp only [wrB1X, wrB1Y, cxOf, reduceCtorEq] at h
  atm := fun k b h => by simp only [wrB1X, wrB1Y, cxOf, List.not_mem_nil] at h
set_option maxRecDepth 100000 in
def wrB1V0 : Sv := .node 28 .dead (.leaf .normal (wrS true) [(0, 0), (1, 0), (2, 0)] [(3, .syms 3), (0, .symi .i64 29), (3, .syms 3), (2, .symi .i64 2), (3, .syms 3), (2, .symi .i64 2), (4, .symi .i64 4), (5, .symi .i64 5), (4, .symi .i64 4), (5, .symi .i64 5)] [(1, .symi .i64 1)])
theorem wrB1_r0 : okS (runOf Tryd.prog wrB1X [loopOf (bodyOf Tryd.f5)] (wrS true) 76 [.tru 16 true, .tru 13 true, .tru 12 true, .tru 14 true, .tru 11 true, .tru 10 true, .tru 9 true, .tru 25 false, .tru 24 true]) wrB1V0 = true := by kernel_rfl
set_option maxRecDepth 100000 in
def wrB1V1 : Sv := .node 28 .dead (.leaf .normal (wrS true) [(0, 0), (1, 0), (2, 0)] [(3, .syms 3), (0, .symi .i64 29), (3, .syms 3), (2, .symi .i64 2), (3, .syms 3), (2, .symi .i64 2), (4, .symi .i64 4), (5, .symi .i64 5), (4, .symi .i64 4), (5, .symi .i64 5)] [(1, .symi .i64 1)])
theorem wrB1_r1 : okS (runOf Tryd.prog wrB1X [loopOf (bodyOf Tryd.f5)] (wrS true) 76 [.tru 17 true, .tru 16 false, .tru 13 true, .tru 12 true, .tru 14 true, .tru 11 true, .tru 10 true, .tru 9 true, .tru 25 false, .tru 24 true]) wrB1V1 = true := by kernel_rfl
set_option maxRecDepth 100000 in
def wrB1V2 : Sv := .node 28 .dead (.leaf .normal (wrS true) [(0, 0), (1, 0), (2, 0)] [(3, .syms 3), (0, .symi .i64 29), (3, .syms 3), (2, .symi .i64 2), (3, .syms 3), (2, .symi .i64 2), (4, .symi .i64 4), (5, .symi .i64 5), (4, .symi .i64 4), (5, .symi .i64 5)] [(1, .symi .i64 1)])
theorem wrB1_r2 : okS (runOf Tryd.prog wrB1X [loopOf (bodyOf Tryd.f5)] (wrS true) 76 [.tru 18 true, .tru 17 false, .tru 16 false, .tru 13 true, .tru 12 true, .tru 14 true, .tru 11 true, .tru 10 true, .tru 9 true, .tru 25 false, .tru 24 true]) wrB1V2 = true := by kernel_rfl
set_option maxRecDepth 100000 in
def wrB1V3 : Sv := .node 28 .dead (.leaf .normal (wrS true) [(0, 0), (1, 0), (2, 0)] [(3, .syms 3), (0, .symi .i64 29), (3, .syms 3), (2, .symi .i64 2), (3, .syms 3), (2, .symi .i64 2), (4, .symi .i64 4), (5, .symi .i64 5), (4, .symi .i64 4), (5, .symi .i64 5)] [(1, .symi .i64 1)])
theorem wrB1_r3 : okS (runOf Tryd.prog wrB1X [loopOf (bodyOf Tryd.f5)] (wrS true) 76 [.tru 19 true, .tru 18 false, .tru 17 false, .tru 16 false, .tru 13 true, .tru 12 true, .tru 14 true, .tru 11 true, .tru 10 true, .tru 9 true, .tru 25 false, .tru 24 true]) wrB1V3 = true := by kernel_rfl
set_option maxRecDepth 100000 in
def wrB1V4 : Sv := .node 28 .dead (.leaf .normal (wrS true) [(0, 0), (1, 0), (2, 0)] [(3, .syms 3), (0, .symi .i64 29), (3, .syms 3), (2, .symi .i64 2), (3, .syms 3), (2, .symi .i64 2), (4, .symi .i64 4), (5, .symi .i64 5), (4, .symi .i64 4), (5, .symi .i64 5)] [(1, .symi .i64 1)])
theorem wrB1_r4 : okS (runOf Tryd.prog wrB1X [loopOf (bodyOf Tryd.f5)] (wrS true) 76 [.tru 20 true, .tru 19 false, .tru 18 false, .tru 17 false, .tru 16 false, .tru 13 true, .tru 12 true, .tru 14 true, .tru 11 true, .tru 10 true, .tru 9 true, .tru 25 false, .tru 24 true]) wrB1V4 = true := by kernel_rfl
set_option maxRecDepth 100000 in
def wrB1V5 : Sv := .node 28 .dead (.leaf .normal (wrS true) [(0, 0), (1, 0), (2, 0)] [(3, .syms 3), (0, .symi .i64 29), (3, .syms 3), (2, .symi .i64 2), (3, .syms 3), (2, .symi .i64 2), (4, .symi .i64 4), (5, .symi .i64 5), (4, .symi .i64 4), (5, .symi .i64 5)] [(1, .symi .i64 1)])
theorem wrB1_r5 : okS (runOf Tryd.prog wrB1X [loopOf (bodyOf Tryd.f5)] (wrS true) 76 [.tru 21 true, .tru 20 false, .tru 19 false, .tru 18 false, .tru 17 false, .tru 16 false, .tru 13 true, .tru 12 true, .tru 14 true, .tru 11 true, .tru 10 true, .tru 9 true, .tru 25 false, .tru 24 true]) wrB1V5 = true := by kernel_rfl
set_option maxRecDepth 100000 in
def wrB1V6 : Sv := .node 28 .dead (.leaf .normal (wrS true) [(0, 0), (1, 0), (2, 0)] [(3, .syms 3), (0, .symi .i64 29), (3, .syms 3), (2, .symi .i64 2), (3, .syms 3), (2, .symi .i64 2), (4, .symi .i64 4), (5, .symi .i64 5), (4, .symi .i64 4), (5, .symi .i64 5)] [(1, .symi .i64 1)])
theorem wrB1_r6 : okS (runOf Tryd.prog wrB1X [loopOf (bodyOf Tryd.f5)] (wrS true) 76 [.tru 22 true, .tru 21 false, .tru 20 false, .tru 19 false, .tru 18 false, .tru 17 false, .tru 16 false, .tru 13 true, .tru 12 true, .tru 14 true, .tru 11 true, .tru 10 true, .tru 9 true, .tru 25 false, .tru 24 true]) wrB1V6 = true := by kernel_rfl
set_option maxRecDepth 100000 in
def wrB1V7 : Sv := .node 28 .dead (.leaf .normal (wrS true) [(0, 0), (1, 0), (2, 0)] [(3, .syms 3), (0, .symi .i64 29), (3, .syms 3), (2, .symi .i64 2), (3, .syms 3), (2, .symi .i64 2), (4, .symi .i64 4), (5, .symi .i64 5), (4, .symi .i64 4), (5, .symi .i64 5)] [(1, .symi .i64 1)])
theorem wrB1_r7 : okS (runOf Tryd.prog wrB1X [loopOf (bodyOf Tryd.f5)] (wrS true) 76 [.tru 23 true, .tru 22 false, .tru 21 false, .tru 20 false, .tru 19 false, .tru 18 false, .tru 17 false, .tru 16 false, .tru 13 true, .tru 12 true, .tru 14 true, .tru 11 true, .tru 10 true, .tru 9 true, .tru 25 false, .tru 24 true]) wrB1V7 = true := by kernel_rfl
set_option maxRecDepth 100000 in
def wrB1V8 : Sv := .node 28 .dead (.leaf .normal (wrS true) [(0, 0), (1, 0), (2, 0)] [(3, .syms 3), (0, .symi .i64 29), (3, .syms 3), (2, .symi .i64 2), (3, .syms 3), (2, .symi .i64 2), (4, .symi .i64 4), (5, .symi .i64 5), (4, .symi .i64 4), (5, .symi .i64 5)] [(1, .symi .i64 1)])
theorem wrB1_r8 : okS (runOf Tryd.prog wrB1X [loopOf (bodyOf Tryd.f5)] (wrS true) 76 [.tru 23 false, .tru 22 false, .tru 21 false, .tru 20 false, .tru 19 false, .tru 18 false, .tru 17 false, .tru 16 false, .tru 13 true, .tru 12 true, .tru 14 true, .tru 11 true, .tru 10 true, .tru 9 true, .tru 25 false, .tru 24 true]) wrB1V8 = true := by kernel_rfl
set_option maxRecDepth 100000 in
def wrB1V9 : Sv := .leaf (.exit 0) wrSe [] [] []
theorem wrB1_r9 : okS (runOf Tryd.prog wrB1X [loopOf (bodyOf Tryd.f5)] (wrS true) 76 [.tru 13 false, .tru 12 true, .tru 14 true, .tru 11 true, .tru 10 true, .tru 9 true, .tru 25 false, .tru 24 true]) wrB1V9 = true := by kernel_rfl
set_option maxRecDepth 100000 in
def wrB1V10 : Sv := .leaf (.exit 0) wrSe [] [] []
theorem wrB1_r10 : okS (runOf Tryd.prog wrB1X [loopOf (bodyOf Tryd.f5)] (wrS true) 76 [.tru 12 false, .tru 14 true, .tru 11 true, .tru 10 true, .tru 9 true, .tru 25 false, .tru 24 true]) wrB1V10 = true := by kernel_rfl
end Go.Proofs.YtapfkgenachpgaaDoor.wr
