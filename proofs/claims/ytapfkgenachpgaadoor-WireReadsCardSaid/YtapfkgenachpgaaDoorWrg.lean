/-
  WireReads: the round of its loop, reckoned.
  No conditions.
-/
import Derived.Test.YtapfkgenachpgaaDoorChecked
import Derived.WalkKit
import Derived.Below
import Derived.ChangeSame
import Derived.Test.YtapfkgenachpgaaDoorWrb
import Derived.Test.YtapfkgenachpgaaDoorWrc
import Derived.Test.YtapfkgenachpgaaDoorWrd
import Derived.Test.YtapfkgenachpgaaDoorWre
import Derived.Test.YtapfkgenachpgaaDoorWrf
namespace Go.Proofs.YtapfkgenachpgaaDoor.wr
open Go.RowKit
open Go.Ev Go.Proofs.YtapfkgenachpgaaDoor.fa Go.Proofs.YtapfkgenachpgaaDoor.wn
set_option linter.unusedVariables false
set_option linter.unusedSimpArgs false

set_option maxRecDepth 100000 in
def wrAG : List SDef := [.sop .len [.syms 0],
  .low [.symi .i64 2, .int .i64 200],
  .bin .leq (.int .i64 0) (.symi .i64 3),
  .bin .leq (.symi .i64 3) (.symi .i64 2),
  .sop .sub [.syms 0, .int .i64 0, .symi .i64 3]]
set_option maxRecDepth 100000 in
def wrAT : LT := .n (.n (.n (.e) 7086 2 (.sop .len [.syms 0]) (.e)) 217424136 3 (.low [.symi .i64 2, .int .i64 200]) (.e)) 431569533 6 (.sop .sub [.syms 0, .int .i64 0, .symi .i64 3]) (.n (.n (.e) 989738494 5 (.bin .leq (.symi .i64 3) (.symi .i64 2)) (.e)) 1030090961 4 (.bin .leq (.int .i64 0) (.symi .i64 3)) (.e))
set_option maxRecDepth 100000 in
def wrAW : Sw := .run (.node 4 (.node 5 (.leaf .normal (wrS false) [(0, 0), (1, 0)] [(3, .syms 6), (0, .int .i64 0), (3, .syms 6), (2, .int .i64 0), (3, .syms 6), (2, .int .i64 0)] [(1, .symi .i64 1), (4, .int .i64 0), (5, .int .i64 0)]) (.dead)) (.dead))
set_option maxRecDepth 100000 in
def wrAKd : KdT := .n (.n (.n .e none .e) (some .i64) (.n .e none .e)) none (.n (.n .e none .e) none (.n .e none .e))
noncomputable def wrAX : Ing := { m := 2, ins := [none, some .i64], G := wrAG, T := wrAT, tab := wnTab, rows := [⟨.symi .i64 1, []⟩] }
theorem wrA_lt : okLT 2 wrAG wrAT = true := by kernel_rfl
theorem wrA_ok : okG wrAG 2 = true := by kernel_rfl
theorem wrA_seg : SegOk Tryd.prog wnTab 76 ((flatC (bodyOf Tryd.f5)).take 4) wrS0 wrAX wrAW where
  lt := wrA_lt
  ok := wrA_ok
  hook := fun F => no_hooks rfl F
  n0 := rfl
  id := by kernel_rfl
  reck := by kernel_rfl
  tab := rfl
  cuts := rfl
set_option maxRecDepth 100000 in
def wrCG : List SDef := []
set_option maxRecDepth 100000 in
def wrCT : LT := .e
set_option maxRecDepth 100000 in
def wrCW : Sw := .run (.leaf .ret wrSE [] [(0, .bool true)] [])
set_option maxRecDepth 100000 in
def wrCKd : KdT := .e
noncomputable def wrCX : Ing := { m := 0, G := wrCG, T := wrCT, tab := wnTab, mh := trueMh [8], inv := OwnInv 0 isErr }
theorem wrC_seg : SegOkI Tryd.prog wnTab 76 ((flatC (bodyOf Tryd.f5)).drop 5) wrSe wrCX wrCW where
  lt := by kernel_rfl
  ok := by kernel_rfl
  hook := fun F => ⟨fun f args v h => by simp only [wrCX, cxOf, noHook, reduceCtorEq] at h, fun f args hp v hp' h => true_mem (X := wrCX) (fs := [8]) rfl (fun f hf w O h1 h2 => by
    obtain rfl := List.mem_singleton.1 hf
    exact works_own w O h1 h2) (fun _ h => h) F f args hp v hp' h, fun f k h => by simp only [wrCX, cxOf, reduceCtorEq] at h, fun k b h => by simp only [wrCX, cxOf, List.not_mem_nil] at h⟩
  n0 := rfl
  id := by kernel_rfl
  reck := by kernel_rfl
  tab := rfl
  cuts := rfl
def wrB0W : Sw := .node 9 (.node 10 (.node 11 (.node 14 (.node 12 (.node 13 (.node 16 (.pick 24 0 (.run wrB0V0) (.pick 24 3 (.run wrB0V1) (.pick 24 5 (.run wrB0V2) .dead))) (.node 17 (.node 25 (.run wrB0V3) (.run wrB0V4)) (.node 18 (.node 25 (.node 43 (.node 47 (.run wrB0V5) .dead) (.node 47 .dead (.run wrB0V6))) (.run wrB0V7)) (.node 19 (.pick 24 0 (.node 49 (.run wrB0V8) (.node 51 (.run wrB0V9) (.node 39 (.node 41 (.run wrB0V10) .dead) (.node 41 .dead (.node 31 (.node 32 (.node 33 (.node 35 (.node 36 (.run wrB0V11) .dead) .dead) .dead) .dead) .dead))))) (.pick 24 3 (.run wrB0V12) (.pick 24 5 (.run wrB0V13) .dead))) (.node 20 (.pick 24 0 (.node 49 (.run wrB0V14) (.node 51 (.run wrB0V15) (.node 39 (.node 41 (.run wrB0V16) .dead) (.node 41 .dead (.node 31 (.node 32 (.node 33 (.node 35 (.node 36 (.run wrB0V17) .dead) .dead) .dead) .dead) .dead))))) (.pick 24 3 (.run wrB0V18) (.pick 24 5 (.run wrB0V19) .dead))) (.node 21 (.pick 24 0 (.node 49 (.run wrB0V20) (.node 51 (.run wrB0V21) (.run wrB0V22))) (.pick 24 3 (.run wrB0V23) (.pick 24 5 (.run wrB0V24) .dead))) (.node 22 (.pick 24 0 (.node 49 (.run wrB0V25) (.node 51 (.run wrB0V26) (.run wrB0V27))) (.pick 24 3 (.run wrB0V28) (.pick 24 5 (.run wrB0V29) .dead))) (.node 23 (.run wrB0V30) (.pick 24 0 (.run wrB0V31) (.pick 24 3 (.run wrB0V32) (.pick 24 5 (.run wrB0V33) .dead))))))))))) (.run wrB0V34)) (.run wrB0V35)) .dead) .dead) .dead) .dead
theorem wrB0_seg : SegOkI Tryd.prog wnTab 76 [loopOf (bodyOf Tryd.f5)] (wrS false) wrB0X wrB0W where
  lt := wrB0_lt
  ok := wrB0_ok
  hook := wrB0_hooks
  n0 := rfl
  id := by kernel_rfl
  reck := by
    show okSw (runOf Tryd.prog wrB0X [loopOf (bodyOf Tryd.f5)] (wrS false) 76) wrB0W [] = true
    simp only [wrB0W, okSw, wrB0_r0, wrB0_r1, wrB0_r2, wrB0_r3, wrB0_r4, wrB0_r5, wrB0_r6, wrB0_r7, wrB0_r8, wrB0_r9, wrB0_r10, wrB0_r11, wrB0_r12, wrB0_r13, wrB0_r14, wrB0_r15, wrB0_r16, wrB0_r17, wrB0_r18, wrB0_r19, wrB0_r20, wrB0_r21, wrB0_r22, wrB0_r23, wrB0_r24, wrB0_r25, wrB0_r26, wrB0_r27, wrB0_r28, wrB0_r29, wrB0_r30, wrB0_r31, wrB0_r32, wrB0_r33, wrB0_r34, wrB0_r35, Bool.and_self]
  tab := rfl
  cuts := rfl
  kt := wrB0_kt
def wrB1W : Sw := .node 24 (.node 25 .dead (.node 9 (.node 10 (.node 11 (.node 14 (.node 12 (.node 13 (.node 16 (.run wrB1V0) (.node 17 (.run wrB1V1) (.node 18 (.run wrB1V2) (.node 19 (.run wrB1V3) (.node 20 (.run wrB1V4) (.node 21 (.run wrB1V5) (.node 22 (.run wrB1V6) (.node 23 (.run wrB1V7) (.run wrB1V8))))))))) (.run wrB1V9)) (.run wrB1V10)) .dead) .dead) .dead) .dead)) .dead
theorem wrB1_seg : SegOkI Tryd.prog wnTab 76 [loopOf (bodyOf Tryd.f5)] (wrS true) wrB1X wrB1W where
  lt := wrB1_lt
  ok := wrB1_ok
  hook := wrB1_hooks
  n0 := rfl
  id := by kernel_rfl
  reck := by
    show okSw (runOf Tryd.prog wrB1X [loopOf (bodyOf Tryd.f5)] (wrS true) 76) wrB1W [] = true
    simp only [wrB1W, okSw, wrB1_r0, wrB1_r1, wrB1_r2, wrB1_r3, wrB1_r4, wrB1_r5, wrB1_r6, wrB1_r7, wrB1_r8, wrB1_r9, wrB1_r10, Bool.and_self]
  tab := rfl
  cuts := rfl
  kt := wrB1_kt

/-! ### What holds at the loop's head -/
structure J (b : Bool) (τ : Sig) : Prop where
  lo : 0 ≤ τ.ival 2
  hi : τ.ival 2 ≤ ((τ.sval 3).size : Nat)
  sz : ((τ.sval 3).size : Int) ≤ 200
  code : b = true → τ.ival 4 ≠ 0
theorem J.agree {b : Bool} {σ τ : Sig} (ag : Agree 6 σ τ) (h : J b σ) : J b τ := by
  obtain ⟨h1, h2, h3, h4⟩ := h
  rw [(ag.val 2 (by decide)).1, (ag.val 3 (by decide)).2.2] at h2
  rw [(ag.val 2 (by decide)).1] at h1
  rw [(ag.val 3 (by decide)).2.2] at h3
  rw [(ag.val 4 (by decide)).1] at h4
  exact ⟨h1, h2, h3, h4⟩
/-- what a round may take of its unknowns -/
structure Cx (b : Bool) (τ : Sig) : Prop where
  j : J b τ
  ht : τ.tab = wnTab
  i0 : 0 ≤ τ.ival 0
  i1 : τ.ival 0 ≤ τ.ival 1
  i2 : τ.ival 1 ≤ 9223372036854775807
  k : -32768 ≤ τ.ival 7 ∧ τ.ival 7 < 32768

theorem tmod30 (n : Int) : -30 < n.tmod 30 ∧ n.tmod 30 < 30 := by
  rcases Int.le_total 0 n with h | h
  · rw [Int.tmod_eq_emod_of_nonneg h]; omega
  · have h1 := Int.neg_tmod (-n) 30
    rw [Int.neg_neg, Int.tmod_eq_emod_of_nonneg (show 0 ≤ -n by omega)] at h1
    omega
theorem and_one {n : Int} (h0 : 0 ≤ n) (h1 : n < 18446744073709551616) : IntKind.u64.wrap ((BitVec.ofInt IntKind.u64.bits n &&& BitVec.ofInt IntKind.u64.bits 1).toNat : Int) = n % 2 := by
  show IntKind.u64.wrap ((BitVec.ofInt 64 n &&& BitVec.ofInt 64 1 : BitVec 64).toNat : Int) = _
  rw [wr_u64, BitVec.toNat_and, BitVec.toNat_ofInt, BitVec.toNat_ofInt]
  have e1 : (n % (2 ^ 64 : Nat)).toNat = n.toNat := by omega
  have e2 : ((1 : Int) % (2 ^ 64 : Nat)).toNat = 2 ^ 1 - 1 := by decide
  rw [e1, e2, Nat.and_two_pow_sub_one_eq_mod]
  omega
theorem xor_zero {n : Int} (h0 : 0 ≤ n) (h1 : n < 9223372036854775808) : IntKind.i64.wrap ((BitVec.ofInt IntKind.i64.bits n ^^^ BitVec.ofInt IntKind.i64.bits 0).toNat : Int) = n := by
  show IntKind.i64.wrap ((BitVec.ofInt 64 n ^^^ BitVec.ofInt 64 0 : BitVec 64).toNat : Int) = _
  rw [show BitVec.ofInt 64 0 = 0#64 from rfl, BitVec.xor_zero, BitVec.toNat_ofInt, wr_i64]
  omega
theorem xor_ones {n : Int} (h0 : 0 ≤ n) (h1 : n < 9223372036854775808) : IntKind.i64.wrap ((BitVec.ofInt IntKind.i64.bits n ^^^ BitVec.ofInt IntKind.i64.bits (-1)).toNat : Int) = -n - 1 := by
  show IntKind.i64.wrap ((BitVec.ofInt 64 n ^^^ BitVec.ofInt 64 (-1) : BitVec 64).toNat : Int) = _
  rw [show BitVec.ofInt 64 (-1) = BitVec.allOnes 64 by decide, BitVec.xor_allOnes, BitVec.toNat_not, BitVec.toNat_ofInt, wr_i64]
  omega
theorem uo9 {τ : Sig} (e : Eqs τ 8 wrB0G) : (bI (τ.bval 9) = 1 ∧ (0 : Int) ≤ τ.ival 2) ∨ (bI (τ.bval 9) = 0 ∧ ¬ (0 : Int) ≤ τ.ival 2) := ob_dec (eqB (e.at 1 _ rfl rfl) rfl)
theorem uo10 {τ : Sig} (e : Eqs τ 8 wrB0G) : (bI (τ.bval 10) = 1 ∧ τ.ival 2 ≤ τ.ival 8) ∨ (bI (τ.bval 10) = 0 ∧ ¬ τ.ival 2 ≤ τ.ival 8) := ob_dec (eqB (e.at 2 _ rfl rfl) rfl)
theorem uo11 {τ : Sig} (e : Eqs τ 8 wrB0G) : (bI (τ.bval 11) = 1 ∧ τ.ival 8 ≤ 1000000) ∨ (bI (τ.bval 11) = 0 ∧ ¬ τ.ival 8 ≤ 1000000) := ob_dec (eqB (e.at 3 _ rfl rfl) rfl)
theorem uo12 {τ : Sig} (e : Eqs τ 8 wrB0G) : (bI (τ.bval 12) = 1 ∧ τ.ival 0 < τ.ival 1) ∨ (bI (τ.bval 12) = 0 ∧ ¬ τ.ival 0 < τ.ival 1) := ob_dec (eqB (e.at 4 _ rfl rfl) rfl)
theorem uo13 {τ : Sig} (e : Eqs τ 8 wrB0G) : (bI (τ.bval 13) = 1 ∧ τ.ival 0 < 50) ∨ (bI (τ.bval 13) = 0 ∧ ¬ τ.ival 0 < 50) := ob_dec (eqB (e.at 5 _ rfl rfl) rfl)
theorem uo14 {τ : Sig} (e : Eqs τ 8 wrB0G) : (bI (τ.bval 14) = 1 ∧ (0 : Int) ≤ τ.ival 0) ∨ (bI (τ.bval 14) = 0 ∧ ¬ (0 : Int) ≤ τ.ival 0) := ob_dec (eqB (e.at 6 _ rfl rfl) rfl)
theorem uo16 {τ : Sig} (e : Eqs τ 8 wrB0G) : (bI (τ.bval 16) = 1 ∧ τ.ival 15 = 1) ∨ (bI (τ.bval 16) = 0 ∧ ¬ τ.ival 15 = 1) := ob_eq (eqB (e.at 8 _ rfl rfl) rfl)
theorem uo17 {τ : Sig} (e : Eqs τ 8 wrB0G) : (bI (τ.bval 17) = 1 ∧ τ.ival 15 = 2) ∨ (bI (τ.bval 17) = 0 ∧ ¬ τ.ival 15 = 2) := ob_eq (eqB (e.at 9 _ rfl rfl) rfl)
theorem uo18 {τ : Sig} (e : Eqs τ 8 wrB0G) : (bI (τ.bval 18) = 1 ∧ τ.ival 15 = 3) ∨ (bI (τ.bval 18) = 0 ∧ ¬ τ.ival 15 = 3) := ob_eq (eqB (e.at 10 _ rfl rfl) rfl)
theorem uo19 {τ : Sig} (e : Eqs τ 8 wrB0G) : (bI (τ.bval 19) = 1 ∧ τ.ival 15 = 4) ∨ (bI (τ.bval 19) = 0 ∧ ¬ τ.ival 15 = 4) := ob_eq (eqB (e.at 11 _ rfl rfl) rfl)
theorem uo20 {τ : Sig} (e : Eqs τ 8 wrB0G) : (bI (τ.bval 20) = 1 ∧ τ.ival 15 = 5) ∨ (bI (τ.bval 20) = 0 ∧ ¬ τ.ival 15 = 5) := ob_eq (eqB (e.at 12 _ rfl rfl) rfl)
theorem uo21 {τ : Sig} (e : Eqs τ 8 wrB0G) : (bI (τ.bval 21) = 1 ∧ τ.ival 15 = 6) ∨ (bI (τ.bval 21) = 0 ∧ ¬ τ.ival 15 = 6) := ob_eq (eqB (e.at 13 _ rfl rfl) rfl)
theorem uo22 {τ : Sig} (e : Eqs τ 8 wrB0G) : (bI (τ.bval 22) = 1 ∧ τ.ival 15 = 7) ∨ (bI (τ.bval 22) = 0 ∧ ¬ τ.ival 15 = 7) := ob_eq (eqB (e.at 14 _ rfl rfl) rfl)
theorem uo23 {τ : Sig} (e : Eqs τ 8 wrB0G) : (bI (τ.bval 23) = 1 ∧ τ.ival 15 = 8) ∨ (bI (τ.bval 23) = 0 ∧ ¬ τ.ival 15 = 8) := ob_eq (eqB (e.at 15 _ rfl rfl) rfl)
theorem uo25 {τ : Sig} (e : Eqs τ 8 wrB0G) : (bI (τ.bval 25) = 1 ∧ τ.ival 2 < τ.ival 8) ∨ (bI (τ.bval 25) = 0 ∧ ¬ τ.ival 2 < τ.ival 8) := ob_dec (eqB (e.at 17 _ rfl rfl) rfl)
theorem uo31 {τ : Sig} (e : Eqs τ 8 wrB0G) : (bI (τ.bval 31) = 1 ∧ (0 : Int) ≤ τ.ival 29) ∨ (bI (τ.bval 31) = 0 ∧ ¬ (0 : Int) ≤ τ.ival 29) := ob_dec (eqB (e.at 23 _ rfl rfl) rfl)
theorem uo32 {τ : Sig} (e : Eqs τ 8 wrB0G) : (bI (τ.bval 32) = 1 ∧ τ.ival 29 ≤ τ.ival 30) ∨ (bI (τ.bval 32) = 0 ∧ ¬ τ.ival 29 ≤ τ.ival 30) := ob_dec (eqB (e.at 24 _ rfl rfl) rfl)
theorem uo33 {τ : Sig} (e : Eqs τ 8 wrB0G) : (bI (τ.bval 33) = 1 ∧ τ.ival 30 ≤ τ.ival 8) ∨ (bI (τ.bval 33) = 0 ∧ ¬ τ.ival 30 ≤ τ.ival 8) := ob_dec (eqB (e.at 25 _ rfl rfl) rfl)
theorem uo35 {τ : Sig} (e : Eqs τ 8 wrB0G) : (bI (τ.bval 35) = 1 ∧ (0 : Int) ≤ τ.ival 34) ∨ (bI (τ.bval 35) = 0 ∧ ¬ (0 : Int) ≤ τ.ival 34) := ob_dec (eqB (e.at 27 _ rfl rfl) rfl)
theorem uo36 {τ : Sig} (e : Eqs τ 8 wrB0G) : (bI (τ.bval 36) = 1 ∧ τ.ival 34 ≤ τ.ival 30) ∨ (bI (τ.bval 36) = 0 ∧ ¬ τ.ival 34 ≤ τ.ival 30) := ob_dec (eqB (e.at 28 _ rfl rfl) rfl)
theorem uo39 {τ : Sig} (e : Eqs τ 8 wrB0G) : (bI (τ.bval 39) = 1 ∧ τ.ival 38 < τ.ival 28) ∨ (bI (τ.bval 39) = 0 ∧ ¬ τ.ival 38 < τ.ival 28) := ob_dec (eqB (e.at 31 _ rfl rfl) rfl)
theorem uo41 {τ : Sig} (e : Eqs τ 8 wrB0G) : (bI (τ.bval 41) = 1 ∧ τ.ival 40 < τ.ival 28) ∨ (bI (τ.bval 41) = 0 ∧ ¬ τ.ival 40 < τ.ival 28) := ob_dec (eqB (e.at 33 _ rfl rfl) rfl)
theorem uo43 {τ : Sig} (e : Eqs τ 8 wrB0G) : (bI (τ.bval 43) = 1 ∧ τ.ival 42 > 1) ∨ (bI (τ.bval 43) = 0 ∧ ¬ τ.ival 42 > 1) := ob_dec (eqB (e.at 35 _ rfl rfl) rfl)
theorem uo47 {τ : Sig} (e : Eqs τ 8 wrB0G) : (bI (τ.bval 47) = 1 ∧ τ.ival 46 > 1) ∨ (bI (τ.bval 47) = 0 ∧ ¬ τ.ival 46 > 1) := ob_dec (eqB (e.at 39 _ rfl rfl) rfl)
theorem uo49 {τ : Sig} (e : Eqs τ 8 wrB0G) : (bI (τ.bval 49) = 1 ∧ τ.ival 48 < 0) ∨ (bI (τ.bval 49) = 0 ∧ ¬ τ.ival 48 < 0) := ob_dec (eqB (e.at 41 _ rfl rfl) rfl)
theorem uo50 {τ : Sig} (e : Eqs τ 8 wrB0G) : τ.ival 50 = (τ.ival 48) % 18446744073709551616 := (eqI (e.at 42 _ rfl rfl) rfl).trans (wr_u64 _)
theorem uo51 {τ : Sig} (e : Eqs τ 8 wrB0G) : (bI (τ.bval 51) = 1 ∧ τ.ival 26 > τ.ival 50) ∨ (bI (τ.bval 51) = 0 ∧ ¬ τ.ival 26 > τ.ival 50) := ob_dec (eqB (e.at 43 _ rfl rfl) rfl)
theorem uo52 {τ : Sig} (e : Eqs τ 8 wrB0G) : τ.ival 52 = τ.ival 26 / 2 := (eqI (x := (τ.ival 26 : Int).fdiv (2 ^ (min (1 : Int).toNat IntKind.u64.bits))) (e.at 44 _ rfl rfl) rfl).trans (by rw [show (2 : Int) ^ (min (1 : Int).toNat IntKind.u64.bits) = 2 by decide]; exact fdiv_pow (by decide))
theorem uo59 {τ : Sig} (e : Eqs τ 8 wrB0G) : (bI (τ.bval 59) = 1 ∧ τ.ival 58 = 0) ∨ (bI (τ.bval 59) = 0 ∧ ¬ τ.ival 58 = 0) := ob_eq (eqB (e.at 51 _ rfl rfl) rfl)
theorem uo64 {τ : Sig} (e : Eqs τ 8 wrB0G) : (bI (τ.bval 59) = 1 ∧ τ.ival 64 = τ.ival 61) ∨ (bI (τ.bval 59) = 0 ∧ τ.ival 64 = τ.ival 63) := ob_iteI (eqIteI (e.at 56 _ rfl rfl) rfl rfl rfl)
theorem uo65 {τ : Sig} (e : Eqs τ 8 wrB0G) : (bI (τ.bval 65) = 1 ∧ τ.ival 57 = τ.ival 64) ∨ (bI (τ.bval 65) = 0 ∧ ¬ τ.ival 57 = τ.ival 64) := ob_eq (eqB (e.at 57 _ rfl rfl) rfl)
theorem uo66 {τ : Sig} (e : Eqs τ 8 wrB0G) : bI (τ.bval 66) = 1 - bI (τ.bval 65) ∧ 0 ≤ bI (τ.bval 65) ∧ bI (τ.bval 65) ≤ 1 := ob_not (eqB (e.at 58 _ rfl rfl) rfl)
theorem uo67 {τ : Sig} (e : Eqs τ 8 wrB0G) : (bI (τ.bval 67) = 1 ∧ τ.ival 40 > 0) ∨ (bI (τ.bval 67) = 0 ∧ ¬ τ.ival 40 > 0) := ob_dec (eqB (e.at 59 _ rfl rfl) rfl)
theorem uo68 {τ : Sig} (e : Eqs τ 8 wrB0G) : (bI (τ.bval 68) = 1 ∧ τ.ival 29 < τ.ival 8) ∨ (bI (τ.bval 68) = 0 ∧ ¬ τ.ival 29 < τ.ival 8) := ob_dec (eqB (e.at 60 _ rfl rfl) rfl)
theorem uo69 {τ : Sig} (e : Eqs τ 8 wrB0G) : (bI (τ.bval 68) = 1 ∧ τ.ival 69 = 4) ∨ (bI (τ.bval 68) = 0 ∧ τ.ival 69 = 0) := ob_iteI (eqIteI (e.at 61 _ rfl rfl) rfl rfl rfl)
theorem uo70 {τ : Sig} (e : Eqs τ 8 wrB0G) : (bI (τ.bval 68) = 1 ∧ τ.ival 70 = τ.ival 29) ∨ (bI (τ.bval 68) = 0 ∧ τ.ival 70 = 0) := ob_iteI (eqIteI (e.at 62 _ rfl rfl) rfl rfl rfl)
theorem uo71 {τ : Sig} (e : Eqs τ 8 wrB0G) : (bI (τ.bval 71) = 1 ∧ τ.ival 69 = 0) ∨ (bI (τ.bval 71) = 0 ∧ ¬ τ.ival 69 = 0) := ob_eq (eqB (e.at 63 _ rfl rfl) rfl)
theorem uo72 {τ : Sig} (e : Eqs τ 8 wrB0G) : (bI (τ.bval 72) = 1 ∧ (4 : Int) = τ.ival 69 ∧ τ.ival 29 = τ.ival 70) ∨ (bI (τ.bval 72) = 0 ∧ ¬ ((4 : Int) = τ.ival 69 ∧ τ.ival 29 = τ.ival 70)) := ob_all2 (eqB (e.at 64 _ rfl rfl) rfl)
theorem uo73 {τ : Sig} (e : Eqs τ 8 wrB0G) : (bI (τ.bval 73) = 1 ∧ (4 : Int) = τ.ival 69) ∨ (bI (τ.bval 73) = 0 ∧ ¬ (4 : Int) = τ.ival 69) := ob_eq (eqB (e.at 65 _ rfl rfl) rfl)
theorem uo74 {τ : Sig} (e : Eqs τ 8 wrB0G) : (bI (τ.bval 72) = 1 ∧ bI (τ.bval 74) = bI (τ.bval 73)) ∨ (bI (τ.bval 72) = 0 ∧ bI (τ.bval 74) = (0 : Int)) := ob_iteB (eqIteB (e.at 66 _ rfl rfl) rfl rfl rfl)
theorem uo75 {τ : Sig} (e : Eqs τ 8 wrB0G) : (bI (τ.bval 71) = 1 ∧ bI (τ.bval 75) = (0 : Int)) ∨ (bI (τ.bval 71) = 0 ∧ bI (τ.bval 75) = bI (τ.bval 74)) := ob_iteB (eqIteB (e.at 67 _ rfl rfl) rfl rfl rfl)
theorem uo76 {τ : Sig} (e : Eqs τ 8 wrB0G) : bI (τ.bval 76) = 1 - bI (τ.bval 75) ∧ 0 ≤ bI (τ.bval 75) ∧ bI (τ.bval 75) ≤ 1 := ob_not (eqB (e.at 68 _ rfl rfl) rfl)
theorem uo77 {τ : Sig} (e : Eqs τ 8 wrB0G) : bI (τ.bval 77) = 1 - bI (τ.bval 71) ∧ 0 ≤ bI (τ.bval 71) ∧ bI (τ.bval 71) ≤ 1 := ob_not (eqB (e.at 69 _ rfl rfl) rfl)
theorem uo78 {τ : Sig} (e : Eqs τ 8 wrB0G) : τ.ival 78 = (τ.ival 0 + 1 + 9223372036854775808) % 18446744073709551616 - 9223372036854775808 := (eqI (e.at 70 _ rfl rfl) rfl).trans (wr_i64 _)
theorem uo79 {τ : Sig} (e : Eqs τ 8 wrB0G) : (bI (τ.bval 79) = 1 ∧ τ.ival 37 = 0) ∨ (bI (τ.bval 79) = 0 ∧ ¬ τ.ival 37 = 0) := ob_eq (eqB (e.at 71 _ rfl rfl) rfl)
theorem uo80 {τ : Sig} (e : Eqs τ 8 wrB0G) : (bI (τ.bval 80) = 1 ∧ τ.ival 2 ≥ τ.ival 8) ∨ (bI (τ.bval 80) = 0 ∧ ¬ τ.ival 2 ≥ τ.ival 8) := ob_dec (eqB (e.at 72 _ rfl rfl) rfl)
theorem uo81 {τ : Sig} (e : Eqs τ 8 wrB0G) : (bI (τ.bval 81) = 1 ∧ (0 : Int) ≤ τ.ival 45) ∨ (bI (τ.bval 81) = 0 ∧ ¬ (0 : Int) ≤ τ.ival 45) := ob_dec (eqB (e.at 73 _ rfl rfl) rfl)
theorem uo82 {τ : Sig} (e : Eqs τ 8 wrB0G) : (bI (τ.bval 82) = 1 ∧ τ.ival 45 < τ.ival 8) ∨ (bI (τ.bval 82) = 0 ∧ ¬ τ.ival 45 < τ.ival 8) := ob_dec (eqB (e.at 74 _ rfl rfl) rfl)
theorem uo85 {τ : Sig} (e : Eqs τ 8 wrB0G) : (bI (τ.bval 85) = 1 ∧ τ.ival 42 = τ.ival 46) ∨ (bI (τ.bval 85) = 0 ∧ ¬ τ.ival 42 = τ.ival 46) := ob_eq (eqB (e.at 77 _ rfl rfl) rfl)
theorem uo93 {τ : Sig} (e : Eqs τ 8 wrB0G) : bI (τ.bval 93) = 1 - bI (τ.bval 85) ∧ 0 ≤ bI (τ.bval 85) ∧ bI (τ.bval 85) ≤ 1 := ob_not (eqB (e.at 85 _ rfl rfl) rfl)
theorem uo94 {τ : Sig} (e : Eqs τ 8 wrB0G) : (bI (τ.bval 94) = 1 ∧ τ.ival 88 > 0) ∨ (bI (τ.bval 94) = 0 ∧ ¬ τ.ival 88 > 0) := ob_dec (eqB (e.at 86 _ rfl rfl) rfl)
theorem uo95 {τ : Sig} (e : Eqs τ 8 wrB0G) : (bI (τ.bval 95) = 1 ∧ τ.ival 44 < τ.ival 8) ∨ (bI (τ.bval 95) = 0 ∧ ¬ τ.ival 44 < τ.ival 8) := ob_dec (eqB (e.at 87 _ rfl rfl) rfl)
theorem uo96 {τ : Sig} (e : Eqs τ 8 wrB0G) : (bI (τ.bval 95) = 1 ∧ τ.ival 96 = 4) ∨ (bI (τ.bval 95) = 0 ∧ τ.ival 96 = 0) := ob_iteI (eqIteI (e.at 88 _ rfl rfl) rfl rfl rfl)
theorem uo97 {τ : Sig} (e : Eqs τ 8 wrB0G) : (bI (τ.bval 95) = 1 ∧ τ.ival 97 = τ.ival 44) ∨ (bI (τ.bval 95) = 0 ∧ τ.ival 97 = 0) := ob_iteI (eqIteI (e.at 89 _ rfl rfl) rfl rfl rfl)
theorem uo98 {τ : Sig} (e : Eqs τ 8 wrB0G) : (bI (τ.bval 98) = 1 ∧ τ.ival 96 = 0) ∨ (bI (τ.bval 98) = 0 ∧ ¬ τ.ival 96 = 0) := ob_eq (eqB (e.at 90 _ rfl rfl) rfl)
theorem uo99 {τ : Sig} (e : Eqs τ 8 wrB0G) : (bI (τ.bval 99) = 1 ∧ (4 : Int) = τ.ival 96 ∧ τ.ival 44 = τ.ival 97) ∨ (bI (τ.bval 99) = 0 ∧ ¬ ((4 : Int) = τ.ival 96 ∧ τ.ival 44 = τ.ival 97)) := ob_all2 (eqB (e.at 91 _ rfl rfl) rfl)
theorem uo100 {τ : Sig} (e : Eqs τ 8 wrB0G) : (bI (τ.bval 100) = 1 ∧ (4 : Int) = τ.ival 96) ∨ (bI (τ.bval 100) = 0 ∧ ¬ (4 : Int) = τ.ival 96) := ob_eq (eqB (e.at 92 _ rfl rfl) rfl)
theorem uo101 {τ : Sig} (e : Eqs τ 8 wrB0G) : (bI (τ.bval 99) = 1 ∧ bI (τ.bval 101) = bI (τ.bval 100)) ∨ (bI (τ.bval 99) = 0 ∧ bI (τ.bval 101) = (0 : Int)) := ob_iteB (eqIteB (e.at 93 _ rfl rfl) rfl rfl rfl)
theorem uo102 {τ : Sig} (e : Eqs τ 8 wrB0G) : (bI (τ.bval 98) = 1 ∧ bI (τ.bval 102) = (0 : Int)) ∨ (bI (τ.bval 98) = 0 ∧ bI (τ.bval 102) = bI (τ.bval 101)) := ob_iteB (eqIteB (e.at 94 _ rfl rfl) rfl rfl rfl)
theorem uo103 {τ : Sig} (e : Eqs τ 8 wrB0G) : bI (τ.bval 103) = 1 - bI (τ.bval 102) ∧ 0 ≤ bI (τ.bval 102) ∧ bI (τ.bval 102) ≤ 1 := ob_not (eqB (e.at 95 _ rfl rfl) rfl)
theorem uo104 {τ : Sig} (e : Eqs τ 8 wrB0G) : bI (τ.bval 104) = 1 - bI (τ.bval 98) ∧ 0 ≤ bI (τ.bval 98) ∧ bI (τ.bval 98) ≤ 1 := ob_not (eqB (e.at 96 _ rfl rfl) rfl)
theorem uo111 {τ : Sig} (e : Eqs τ 8 wrB0G) : (bI (τ.bval 111) = 1 ∧ τ.ival 37 > 0) ∨ (bI (τ.bval 111) = 0 ∧ ¬ τ.ival 37 > 0) := ob_dec (eqB (e.at 103 _ rfl rfl) rfl)
theorem uo112 {τ : Sig} (e : Eqs τ 8 wrB0G) : (bI (τ.bval 112) = 1 ∧ τ.ival 42 = 1) ∨ (bI (τ.bval 112) = 0 ∧ ¬ τ.ival 42 = 1) := ob_eq (eqB (e.at 104 _ rfl rfl) rfl)
theorem uo113 {τ : Sig} (e : Eqs τ 8 wrB0G) : (bI (τ.bval 113) = 1 ∧ τ.ival 46 = 1) ∨ (bI (τ.bval 113) = 0 ∧ ¬ τ.ival 46 = 1) := ob_eq (eqB (e.at 105 _ rfl rfl) rfl)
theorem uo114 {τ : Sig} (e : Eqs τ 8 wrB0G) : (bI (τ.bval 114) = 1 ∧ (0 : Int) = bI (τ.bval 113)) ∨ (bI (τ.bval 114) = 0 ∧ (0 : Int) + bI (τ.bval 113) = 1) := ob_eqb (eqB (e.at 106 _ rfl rfl) rfl)
theorem uo116 {τ : Sig} (e : Eqs τ 8 wrB0G) : (bI (τ.bval 116) = 1 ∧ bI (τ.bval 112) = bI (τ.bval 113)) ∨ (bI (τ.bval 116) = 0 ∧ bI (τ.bval 112) + bI (τ.bval 113) = 1) := ob_eqb (eqB (e.at 108 _ rfl rfl) rfl)
theorem uo117 {τ : Sig} (e : Eqs τ 8 wrB0G) : bI (τ.bval 117) = 1 - bI (τ.bval 114) ∧ 0 ≤ bI (τ.bval 114) ∧ bI (τ.bval 114) ≤ 1 := ob_not (eqB (e.at 109 _ rfl rfl) rfl)
theorem uo119 {τ : Sig} (e : Eqs τ 8 wrB0G) : bI (τ.bval 119) = 1 - bI (τ.bval 116) ∧ 0 ≤ bI (τ.bval 116) ∧ bI (τ.bval 116) ≤ 1 := ob_not (eqB (e.at 111 _ rfl rfl) rfl)
theorem uo126 {τ : Sig} (e : Eqs τ 8 wrB0G) : (bI (τ.bval 47) = 1 ∧ τ.ival 126 = τ.ival 2) ∨ (bI (τ.bval 47) = 0 ∧ τ.ival 126 = τ.ival 44) := ob_iteI (eqIteI (e.at 118 _ rfl rfl) rfl rfl rfl)
theorem uo154 {τ : Sig} (e : Eqs τ 8 wrB0G) : bI (τ.bval 154) = 1 - bI (τ.bval 153) ∧ 0 ≤ bI (τ.bval 153) ∧ bI (τ.bval 153) ≤ 1 := ob_not (eqB (e.at 146 _ rfl rfl) rfl)
theorem uo155 {τ : Sig} (e : Eqs τ 8 wrB0G) : (bI (τ.bval 155) = 1 ∧ ¬ τ.ival 151 = τ.ival 30) ∨ (bI (τ.bval 155) = 0 ∧ τ.ival 151 = τ.ival 30) := ob_ne (eqB (e.at 147 _ rfl rfl) rfl)
theorem uo158 {τ : Sig} (e : Eqs τ 8 wrB0G) : (bI (τ.bval 158) = 1 ∧ ¬ τ.ival 156 = τ.ival 157) ∨ (bI (τ.bval 158) = 0 ∧ τ.ival 156 = τ.ival 157) := ob_ne (eqB (e.at 150 _ rfl rfl) rfl)
theorem uo159 {τ : Sig} (e : Eqs τ 8 wrB0G) : (bI (τ.bval 159) = 1 ∧ τ.ival 156 > 0) ∨ (bI (τ.bval 159) = 0 ∧ ¬ τ.ival 156 > 0) := ob_dec (eqB (e.at 151 _ rfl rfl) rfl)
theorem uo160 {τ : Sig} (e : Eqs τ 8 wrB0G) : (bI (τ.bval 160) = 1 ∧ τ.ival 30 < τ.ival 8) ∨ (bI (τ.bval 160) = 0 ∧ ¬ τ.ival 30 < τ.ival 8) := ob_dec (eqB (e.at 152 _ rfl rfl) rfl)
theorem uo161 {τ : Sig} (e : Eqs τ 8 wrB0G) : (bI (τ.bval 160) = 1 ∧ τ.ival 161 = 4) ∨ (bI (τ.bval 160) = 0 ∧ τ.ival 161 = 0) := ob_iteI (eqIteI (e.at 153 _ rfl rfl) rfl rfl rfl)
theorem uo162 {τ : Sig} (e : Eqs τ 8 wrB0G) : (bI (τ.bval 160) = 1 ∧ τ.ival 162 = τ.ival 30) ∨ (bI (τ.bval 160) = 0 ∧ τ.ival 162 = 0) := ob_iteI (eqIteI (e.at 154 _ rfl rfl) rfl rfl rfl)
theorem uo163 {τ : Sig} (e : Eqs τ 8 wrB0G) : (bI (τ.bval 163) = 1 ∧ τ.ival 161 = 0) ∨ (bI (τ.bval 163) = 0 ∧ ¬ τ.ival 161 = 0) := ob_eq (eqB (e.at 155 _ rfl rfl) rfl)
theorem uo164 {τ : Sig} (e : Eqs τ 8 wrB0G) : (bI (τ.bval 164) = 1 ∧ (4 : Int) = τ.ival 161 ∧ τ.ival 151 = τ.ival 162) ∨ (bI (τ.bval 164) = 0 ∧ ¬ ((4 : Int) = τ.ival 161 ∧ τ.ival 151 = τ.ival 162)) := ob_all2 (eqB (e.at 156 _ rfl rfl) rfl)
theorem uo165 {τ : Sig} (e : Eqs τ 8 wrB0G) : (bI (τ.bval 165) = 1 ∧ (4 : Int) = τ.ival 161) ∨ (bI (τ.bval 165) = 0 ∧ ¬ (4 : Int) = τ.ival 161) := ob_eq (eqB (e.at 157 _ rfl rfl) rfl)
theorem uo166 {τ : Sig} (e : Eqs τ 8 wrB0G) : (bI (τ.bval 164) = 1 ∧ bI (τ.bval 166) = bI (τ.bval 165)) ∨ (bI (τ.bval 164) = 0 ∧ bI (τ.bval 166) = (0 : Int)) := ob_iteB (eqIteB (e.at 158 _ rfl rfl) rfl rfl rfl)
theorem uo167 {τ : Sig} (e : Eqs τ 8 wrB0G) : (bI (τ.bval 163) = 1 ∧ bI (τ.bval 167) = (0 : Int)) ∨ (bI (τ.bval 163) = 0 ∧ bI (τ.bval 167) = bI (τ.bval 166)) := ob_iteB (eqIteB (e.at 159 _ rfl rfl) rfl rfl rfl)
theorem uo168 {τ : Sig} (e : Eqs τ 8 wrB0G) : bI (τ.bval 168) = 1 - bI (τ.bval 167) ∧ 0 ≤ bI (τ.bval 167) ∧ bI (τ.bval 167) ≤ 1 := ob_not (eqB (e.at 160 _ rfl rfl) rfl)
theorem uo169 {τ : Sig} (e : Eqs τ 8 wrB0G) : bI (τ.bval 169) = 1 - bI (τ.bval 163) ∧ 0 ≤ bI (τ.bval 163) ∧ bI (τ.bval 163) ≤ 1 := ob_not (eqB (e.at 161 _ rfl rfl) rfl)
theorem uo170 {τ : Sig} (e : Eqs τ 8 wrB0G) : (bI (τ.bval 170) = 1 ∧ ¬ τ.ival 2 = τ.ival 29) ∨ (bI (τ.bval 170) = 0 ∧ τ.ival 2 = τ.ival 29) := ob_ne (eqB (e.at 162 _ rfl rfl) rfl)
theorem uo171 {τ : Sig} (e : Eqs τ 8 wrB0G) : (bI (τ.bval 171) = 1 ∧ ¬ τ.ival 37 = τ.ival 40) ∨ (bI (τ.bval 171) = 0 ∧ τ.ival 37 = τ.ival 40) := ob_ne (eqB (e.at 163 _ rfl rfl) rfl)
theorem uo173 {τ : Sig} (e : Eqs τ 8 wrB0G) : (bI (τ.bval 173) = 1 ∧ ¬ τ.ival 172 = τ.ival 2) ∨ (bI (τ.bval 173) = 0 ∧ τ.ival 172 = τ.ival 2) := ob_ne (eqB (e.at 165 _ rfl rfl) rfl)
theorem uo175 {τ : Sig} (e : Eqs τ 8 wrB0G) : (bI (τ.bval 175) = 1 ∧ ¬ τ.ival 174 = τ.ival 37) ∨ (bI (τ.bval 175) = 0 ∧ τ.ival 174 = τ.ival 37) := ob_ne (eqB (e.at 167 _ rfl rfl) rfl)
theorem uo176 {τ : Sig} (e : Eqs τ 8 wrB0G) : (bI (τ.bval 176) = 1 ∧ (0 : Int) = τ.ival 28) ∨ (bI (τ.bval 176) = 0 ∧ ¬ (0 : Int) = τ.ival 28) := ob_eq (eqB (e.at 168 _ rfl rfl) rfl)
theorem uo177 {τ : Sig} (e : Eqs τ 8 wrB0G) : bI (τ.bval 177) = 1 - bI (τ.bval 176) ∧ 0 ≤ bI (τ.bval 176) ∧ bI (τ.bval 176) ≤ 1 := ob_not (eqB (e.at 169 _ rfl rfl) rfl)
theorem uo178 {τ : Sig} (e : Eqs τ 8 wrB0G) : (bI (τ.bval 178) = 1 ∧ ¬ τ.ival 172 = τ.ival 29) ∨ (bI (τ.bval 178) = 0 ∧ τ.ival 172 = τ.ival 29) := ob_ne (eqB (e.at 170 _ rfl rfl) rfl)
theorem uo179 {τ : Sig} (e : Eqs τ 8 wrB0G) : (bI (τ.bval 179) = 1 ∧ ¬ τ.ival 174 = τ.ival 40) ∨ (bI (τ.bval 179) = 0 ∧ τ.ival 174 = τ.ival 40) := ob_ne (eqB (e.at 171 _ rfl rfl) rfl)
theorem uo180 {τ : Sig} (e : Eqs τ 8 wrB0G) : -30 < τ.ival 180 ∧ τ.ival 180 < 30 := by
  have g : τ.ival 180 = ((τ.ival 7 : Int).tmod 30) := eqI (e.at 172 _ rfl rfl) rfl
  have h1 := tmod30 (τ.ival 7)
  omega
theorem uo182 {τ : Sig} (e : Eqs τ 8 wrB0G) : (bI (τ.bval 182) = 1 ∧ ¬ τ.ival 181 = 0) ∨ (bI (τ.bval 182) = 0 ∧ τ.ival 181 = 0) := ob_ne (eqB (e.at 174 _ rfl rfl) rfl)
theorem uo183 {τ : Sig} (e : Eqs τ 8 wrB0G) : (bI (τ.bval 183) = 1 ∧ τ.ival 181 = 0) ∨ (bI (τ.bval 183) = 0 ∧ ¬ τ.ival 181 = 0) := ob_eq (eqB (e.at 175 _ rfl rfl) rfl)
theorem uo184 {τ : Sig} (e : Eqs τ 8 wrB0G) : (bI (τ.bval 184) = 1 ∧ τ.ival 181 = τ.ival 181) ∨ (bI (τ.bval 184) = 0 ∧ ¬ τ.ival 181 = τ.ival 181) := ob_eq (eqB (e.at 176 _ rfl rfl) rfl)
theorem uo185 {τ : Sig} (e : Eqs τ 8 wrB0G) : (bI (τ.bval 183) = 1 ∧ bI (τ.bval 185) = (0 : Int)) ∨ (bI (τ.bval 183) = 0 ∧ bI (τ.bval 185) = bI (τ.bval 184)) := ob_iteB (eqIteB (e.at 177 _ rfl rfl) rfl rfl rfl)
theorem uo186 {τ : Sig} (e : Eqs τ 8 wrB0G) : bI (τ.bval 186) = 1 - bI (τ.bval 185) ∧ 0 ≤ bI (τ.bval 185) ∧ bI (τ.bval 185) ≤ 1 := ob_not (eqB (e.at 178 _ rfl rfl) rfl)
theorem uo187 {τ : Sig} (e : Eqs τ 8 wrB0G) : (bI (τ.bval 25) = 1 ∧ τ.ival 187 = 4) ∨ (bI (τ.bval 25) = 0 ∧ τ.ival 187 = τ.ival 181) := ob_iteI (eqIteI (e.at 179 _ rfl rfl) rfl rfl rfl)
theorem uo188 {τ : Sig} (e : Eqs τ 8 wrB0G) : (bI (τ.bval 25) = 1 ∧ τ.ival 188 = τ.ival 2) ∨ (bI (τ.bval 25) = 0 ∧ τ.ival 188 = τ.ival 48) := ob_iteI (eqIteI (e.at 180 _ rfl rfl) rfl rfl rfl)
theorem uo189 {τ : Sig} (e : Eqs τ 8 wrB0G) : (bI (τ.bval 183) = 1 ∧ τ.ival 189 = τ.ival 187) ∨ (bI (τ.bval 183) = 0 ∧ τ.ival 189 = τ.ival 181) := ob_iteI (eqIteI (e.at 181 _ rfl rfl) rfl rfl rfl)
theorem uo190 {τ : Sig} (e : Eqs τ 8 wrB0G) : (bI (τ.bval 183) = 1 ∧ τ.ival 190 = τ.ival 188) ∨ (bI (τ.bval 183) = 0 ∧ τ.ival 190 = τ.ival 48) := ob_iteI (eqIteI (e.at 182 _ rfl rfl) rfl rfl rfl)
theorem uo191 {τ : Sig} (e : Eqs τ 8 wrB0G) : (bI (τ.bval 191) = 1 ∧ τ.ival 189 = 0) ∨ (bI (τ.bval 191) = 0 ∧ ¬ τ.ival 189 = 0) := ob_eq (eqB (e.at 183 _ rfl rfl) rfl)
theorem uo192 {τ : Sig} (e : Eqs τ 8 wrB0G) : (bI (τ.bval 192) = 1 ∧ τ.ival 181 = τ.ival 189 ∧ τ.ival 48 = τ.ival 190) ∨ (bI (τ.bval 192) = 0 ∧ ¬ (τ.ival 181 = τ.ival 189 ∧ τ.ival 48 = τ.ival 190)) := ob_all2 (eqB (e.at 184 _ rfl rfl) rfl)
theorem uo193 {τ : Sig} (e : Eqs τ 8 wrB0G) : (bI (τ.bval 193) = 1 ∧ τ.ival 181 = τ.ival 189) ∨ (bI (τ.bval 193) = 0 ∧ ¬ τ.ival 181 = τ.ival 189) := ob_eq (eqB (e.at 185 _ rfl rfl) rfl)
theorem uo194 {τ : Sig} (e : Eqs τ 8 wrB0G) : (bI (τ.bval 192) = 1 ∧ bI (τ.bval 194) = bI (τ.bval 193)) ∨ (bI (τ.bval 192) = 0 ∧ bI (τ.bval 194) = (0 : Int)) := ob_iteB (eqIteB (e.at 186 _ rfl rfl) rfl rfl rfl)
theorem uo195 {τ : Sig} (e : Eqs τ 8 wrB0G) : (bI (τ.bval 191) = 1 ∧ bI (τ.bval 195) = (0 : Int)) ∨ (bI (τ.bval 191) = 0 ∧ bI (τ.bval 195) = bI (τ.bval 194)) := ob_iteB (eqIteB (e.at 187 _ rfl rfl) rfl rfl rfl)
theorem uo196 {τ : Sig} (e : Eqs τ 8 wrB0G) : bI (τ.bval 196) = 1 - bI (τ.bval 195) ∧ 0 ≤ bI (τ.bval 195) ∧ bI (τ.bval 195) ≤ 1 := ob_not (eqB (e.at 188 _ rfl rfl) rfl)
theorem uo197 {τ : Sig} (e : Eqs τ 8 wrB0G) : (bI (τ.bval 25) = 1 ∧ τ.ival 197 = 4) ∨ (bI (τ.bval 25) = 0 ∧ τ.ival 197 = 0) := ob_iteI (eqIteI (e.at 189 _ rfl rfl) rfl rfl rfl)
theorem uo198 {τ : Sig} (e : Eqs τ 8 wrB0G) : (bI (τ.bval 25) = 1 ∧ τ.ival 198 = τ.ival 2) ∨ (bI (τ.bval 25) = 0 ∧ τ.ival 198 = 0) := ob_iteI (eqIteI (e.at 190 _ rfl rfl) rfl rfl rfl)
theorem uo199 {τ : Sig} (e : Eqs τ 8 wrB0G) : (bI (τ.bval 199) = 1 ∧ τ.ival 197 = 0) ∨ (bI (τ.bval 199) = 0 ∧ ¬ τ.ival 197 = 0) := ob_eq (eqB (e.at 191 _ rfl rfl) rfl)
theorem uo200 {τ : Sig} (e : Eqs τ 8 wrB0G) : (bI (τ.bval 200) = 1 ∧ (4 : Int) = τ.ival 197 ∧ τ.ival 2 = τ.ival 198) ∨ (bI (τ.bval 200) = 0 ∧ ¬ ((4 : Int) = τ.ival 197 ∧ τ.ival 2 = τ.ival 198)) := ob_all2 (eqB (e.at 192 _ rfl rfl) rfl)
theorem uo201 {τ : Sig} (e : Eqs τ 8 wrB0G) : (bI (τ.bval 201) = 1 ∧ (4 : Int) = τ.ival 197) ∨ (bI (τ.bval 201) = 0 ∧ ¬ (4 : Int) = τ.ival 197) := ob_eq (eqB (e.at 193 _ rfl rfl) rfl)
theorem uo202 {τ : Sig} (e : Eqs τ 8 wrB0G) : (bI (τ.bval 200) = 1 ∧ bI (τ.bval 202) = bI (τ.bval 201)) ∨ (bI (τ.bval 200) = 0 ∧ bI (τ.bval 202) = (0 : Int)) := ob_iteB (eqIteB (e.at 194 _ rfl rfl) rfl rfl rfl)
theorem uo203 {τ : Sig} (e : Eqs τ 8 wrB0G) : (bI (τ.bval 199) = 1 ∧ bI (τ.bval 203) = (0 : Int)) ∨ (bI (τ.bval 199) = 0 ∧ bI (τ.bval 203) = bI (τ.bval 202)) := ob_iteB (eqIteB (e.at 195 _ rfl rfl) rfl rfl rfl)
theorem uo204 {τ : Sig} (e : Eqs τ 8 wrB0G) : bI (τ.bval 204) = 1 - bI (τ.bval 203) ∧ 0 ≤ bI (τ.bval 203) ∧ bI (τ.bval 203) ≤ 1 := ob_not (eqB (e.at 196 _ rfl rfl) rfl)
theorem uo205 {τ : Sig} (e : Eqs τ 8 wrB0G) : bI (τ.bval 205) = 1 - bI (τ.bval 199) ∧ 0 ≤ bI (τ.bval 199) ∧ bI (τ.bval 199) ≤ 1 := ob_not (eqB (e.at 197 _ rfl rfl) rfl)
theorem wrB0_base {τ : Sig} (e : Eqs τ 8 wrB0G) (h : Cx false τ) : τ.ival 8 = ((τ.sval 3).size : Nat) ∧ 0 ≤ τ.ival 2 ∧ τ.ival 2 ≤ τ.ival 8 ∧ τ.ival 8 ≤ 200 ∧ 0 ≤ τ.ival 0 ∧ τ.ival 0 ≤ τ.ival 1 ∧ τ.ival 1 ≤ 9223372036854775807 ∧ 0 ≤ τ.ival 26 ∧ τ.ival 26 < 4611686018427387904 ∧ 0 ≤ τ.ival 27 ∧ τ.ival 27 ≤ 8 ∧
    ((τ.ival 24 = 0 ∧ 1 ≤ τ.ival 27 ∧ τ.ival 2 + τ.ival 27 ≤ τ.ival 8) ∨ ((τ.ival 24 = 3 ∨ τ.ival 24 = 5) ∧ τ.ival 26 = 0 ∧ τ.ival 27 = 0)) ∧ 0 ≤ τ.ival 42 ∧ τ.ival 42 < 256 ∧ τ.ival 46 = τ.ival 42 ∧ -32768 ≤ τ.ival 7 ∧ τ.ival 7 < 32768 := by
  have h8 : τ.ival 8 = ((τ.sval 3).size : Nat) := eqLen (e.at 0 _ rfl rfl)
  have a0 : τ.ival 42 = bAt (τ.sval 3) (τ.ival 2) := eqAt (e.at 34 _ rfl rfl) (show den τ (.symi .i64 2) = .int .i64 (τ.ival 2) from rfl)
  have a1 : τ.ival 46 = bAt (τ.sval 3) (τ.ival 45) := eqAt (e.at 38 _ rfl rfl) (show den τ (.symi .i64 45) = .int .i64 (τ.ival 45) from rfl)
  have g3 : τ.ival 26 = IntKind.u64.wrap (τ.tab 128 [encB (τ.sval 3), τ.ival 2]) := eqI (e.at 18 _ rfl rfl) rfl
  have g4 : τ.ival 27 = IntKind.i64.wrap (τ.tab 129 [encB (τ.sval 3), τ.ival 2]) := eqI (e.at 19 _ rfl rfl) rfl
  have g5 : τ.ival 24 = IntKind.i64.wrap (τ.tab 130 [encB (τ.sval 3), τ.ival 2]) := eqI (e.at 16 _ rfl rfl) rfl
  rw [h.ht, tab_num _ _ 0 (by decide), wr_u64] at g3
  rw [h.ht, tab_num _ _ 1 (by decide), wr_i64] at g4
  rw [h.ht, tab_num _ _ 2 (by decide), wr_i64] at g5
  have n := numL_in (τ.sval 3) (τ.ival 2)
  have b := bAt_in (τ.sval 3) (τ.ival 2)
  have q1 : τ.ival 44 = (τ.ival 2 + 1 + 9223372036854775808) % 18446744073709551616 - 9223372036854775808 := (eqI (e.at 36 _ rfl rfl) rfl).trans (wr_i64 _)
  have q2 : τ.ival 45 = (τ.ival 44 - 1 + 9223372036854775808) % 18446744073709551616 - 9223372036854775808 := (eqI (e.at 37 _ rfl rfl) rfl).trans (wr_i64 _)
  have j1 := h.j.lo
  have j2 := h.j.hi
  have j3 := h.j.sz
  have hs : τ.ival 45 = τ.ival 2 := by omega
  rw [hs] at a1
  refine ⟨h8, j1, by omega, by omega, h.i0, h.i1, h.i2, by omega, by omega, by omega, by omega, by omega, by omega, by omega, by omega, h.k.1, h.k.2⟩
theorem uo28 {τ : Sig} (e : Eqs τ 8 wrB0G) (h : Cx false τ) : τ.ival 28 = τ.ival 26 := by
  have g : τ.ival 28 = (τ.ival 26 + 9223372036854775808) % 18446744073709551616 - 9223372036854775808 := (eqI (e.at 20 _ rfl rfl) rfl).trans (wr_i64 _)
  have b := wrB0_base e h
  omega
theorem uo29 {τ : Sig} (e : Eqs τ 8 wrB0G) (h : Cx false τ) : τ.ival 29 = τ.ival 2 + τ.ival 27 := by
  have g : τ.ival 29 = (τ.ival 2 + τ.ival 27 + 9223372036854775808) % 18446744073709551616 - 9223372036854775808 := (eqI (e.at 21 _ rfl rfl) rfl).trans (wr_i64 _)
  have b := wrB0_base e h
  omega
theorem uo30 {τ : Sig} (e : Eqs τ 8 wrB0G) (h : Cx false τ) : τ.ival 30 = τ.ival 29 + τ.ival 28 := by
  have g : τ.ival 30 = (τ.ival 29 + τ.ival 28 + 9223372036854775808) % 18446744073709551616 - 9223372036854775808 := (eqI (e.at 22 _ rfl rfl) rfl).trans (wr_i64 _)
  have b := wrB0_base e h
  have := uo28 e h
  have := uo29 e h
  omega
theorem uo34 {τ : Sig} (e : Eqs τ 8 wrB0G) (h : Cx false τ) : τ.ival 34 = τ.ival 30 - τ.ival 28 := by
  have g : τ.ival 34 = (τ.ival 30 - τ.ival 28 + 9223372036854775808) % 18446744073709551616 - 9223372036854775808 := (eqI (e.at 26 _ rfl rfl) rfl).trans (wr_i64 _)
  have b := wrB0_base e h
  have := uo28 e h
  have := uo29 e h
  have := uo30 e h
  omega
theorem uo37 {τ : Sig} (e : Eqs τ 8 wrB0G) (h : Cx false τ) : τ.ival 37 = τ.ival 8 - τ.ival 2 := by
  have g : τ.ival 37 = (τ.ival 8 - τ.ival 2 + 9223372036854775808) % 18446744073709551616 - 9223372036854775808 := (eqI (e.at 29 _ rfl rfl) rfl).trans (wr_i64 _)
  have b := wrB0_base e h
  omega
theorem uo38 {τ : Sig} (e : Eqs τ 8 wrB0G) (h : Cx false τ) : τ.ival 38 = τ.ival 37 - τ.ival 27 := by
  have g : τ.ival 38 = (τ.ival 37 - τ.ival 27 + 9223372036854775808) % 18446744073709551616 - 9223372036854775808 := (eqI (e.at 30 _ rfl rfl) rfl).trans (wr_i64 _)
  have b := wrB0_base e h
  have := uo37 e h
  omega
theorem uo40 {τ : Sig} (e : Eqs τ 8 wrB0G) (h : Cx false τ) : τ.ival 40 = τ.ival 8 - τ.ival 29 := by
  have g : τ.ival 40 = (τ.ival 8 - τ.ival 29 + 9223372036854775808) % 18446744073709551616 - 9223372036854775808 := (eqI (e.at 32 _ rfl rfl) rfl).trans (wr_i64 _)
  have b := wrB0_base e h
  have := uo29 e h
  omega
theorem uo44 {τ : Sig} (e : Eqs τ 8 wrB0G) (h : Cx false τ) : τ.ival 44 = τ.ival 2 + 1 := by
  have g : τ.ival 44 = (τ.ival 2 + 1 + 9223372036854775808) % 18446744073709551616 - 9223372036854775808 := (eqI (e.at 36 _ rfl rfl) rfl).trans (wr_i64 _)
  have b := wrB0_base e h
  omega
theorem uo45 {τ : Sig} (e : Eqs τ 8 wrB0G) (h : Cx false τ) : τ.ival 45 = τ.ival 44 - 1 := by
  have g : τ.ival 45 = (τ.ival 44 - 1 + 9223372036854775808) % 18446744073709551616 - 9223372036854775808 := (eqI (e.at 37 _ rfl rfl) rfl).trans (wr_i64 _)
  have b := wrB0_base e h
  have := uo44 e h
  omega
theorem uo48 {τ : Sig} (e : Eqs τ 8 wrB0G) (h : Cx false τ) : τ.ival 48 = τ.ival 7 := by
  have g : τ.ival 48 = (τ.ival 7 + 9223372036854775808) % 18446744073709551616 - 9223372036854775808 := (eqI (e.at 40 _ rfl rfl) rfl).trans (wr_i64 _)
  have b := wrB0_base e h
  omega
theorem uo54 {τ : Sig} (e : Eqs τ 8 wrB0G) (h : Cx false τ) : τ.ival 54 = τ.ival 26 % 2 := by
  have g : τ.ival 54 = IntKind.u64.wrap (BitVec.ofInt IntKind.u64.bits (τ.ival 26) &&& BitVec.ofInt IntKind.u64.bits (1)).toNat := eqI (e.at 46 _ rfl rfl) rfl
  have b := wrB0_base e h
  rw [and_one (by omega) (by omega)] at g
  exact g
theorem uo55 {τ : Sig} (e : Eqs τ 8 wrB0G) (h : Cx false τ) : τ.ival 55 = τ.ival 54 := by
  have g : τ.ival 55 = (τ.ival 54 + 9223372036854775808) % 18446744073709551616 - 9223372036854775808 := (eqI (e.at 47 _ rfl rfl) rfl).trans (wr_i64 _)
  have b := wrB0_base e h
  have := uo54 e h
  omega
theorem uo57 {τ : Sig} (e : Eqs τ 8 wrB0G) (h : Cx false τ) : (τ.ival 26 % 2 = 0 ∧ τ.ival 57 = τ.ival 26 / 2) ∨ (τ.ival 26 % 2 = 1 ∧ τ.ival 57 = -(τ.ival 26 / 2) - 1) := by
  have b := wrB0_base e h
  have g1 : τ.ival 52 = τ.ival 26 / 2 := (eqI (x := (τ.ival 26 : Int).fdiv (2 ^ (min (1 : Int).toNat IntKind.u64.bits))) (e.at 44 _ rfl rfl) rfl).trans (by rw [show (2 : Int) ^ (min (1 : Int).toNat IntKind.u64.bits) = 2 by decide]; exact fdiv_pow (by decide))
  have g2 : τ.ival 53 = IntKind.i64.wrap (τ.ival 52) := eqI (e.at 45 _ rfl rfl) rfl
  have g3 : τ.ival 54 = IntKind.u64.wrap (BitVec.ofInt IntKind.u64.bits (τ.ival 26) &&& BitVec.ofInt IntKind.u64.bits (1)).toNat := eqI (e.at 46 _ rfl rfl) rfl
  have g4 : τ.ival 55 = IntKind.i64.wrap (τ.ival 54) := eqI (e.at 47 _ rfl rfl) rfl
  have g5 : τ.ival 56 = IntKind.i64.wrap (0 - τ.ival 55) := eqI (e.at 48 _ rfl rfl) rfl
  have g6 : τ.ival 57 = IntKind.i64.wrap (BitVec.ofInt IntKind.i64.bits (τ.ival 53) ^^^ BitVec.ofInt IntKind.i64.bits (τ.ival 56)).toNat := eqI (e.at 49 _ rfl rfl) rfl
  rw [and_one (by omega) (by omega)] at g3
  rw [wr_i64] at g2 g4 g5
  have e2 : τ.ival 53 = τ.ival 26 / 2 := by omega
  rcases Int.emod_two_eq (τ.ival 26) with hz | hz
  · left
    have e5 : τ.ival 56 = 0 := by omega
    rw [e2, e5, xor_zero (by omega) (by omega)] at g6
    exact ⟨hz, g6⟩
  · right
    have e5 : τ.ival 56 = -1 := by omega
    rw [e2, e5, xor_ones (by omega) (by omega)] at g6
    exact ⟨hz, by omega⟩
theorem uo58 {τ : Sig} (e : Eqs τ 8 wrB0G) (h : Cx false τ) : τ.ival 58 = τ.ival 26 % 2 := by
  have g : τ.ival 58 = ((τ.ival 26 : Int).tmod 2) := eqI (e.at 50 _ rfl rfl) rfl
  have b := wrB0_base e h
  rw [Int.tmod_eq_emod_of_nonneg (by omega)] at g
  exact g
theorem uo60 {τ : Sig} (e : Eqs τ 8 wrB0G) (h : Cx false τ) : τ.ival 60 = τ.ival 26 / 2 := by
  have g : τ.ival 60 = IntKind.u64.wrap ((τ.ival 26 : Int).tdiv 2) := eqI (e.at 52 _ rfl rfl) rfl
  have b := wrB0_base e h
  rw [wr_u64, Int.tdiv_eq_ediv_of_nonneg (by omega)] at g
  omega
theorem uo61 {τ : Sig} (e : Eqs τ 8 wrB0G) (h : Cx false τ) : τ.ival 61 = τ.ival 60 := by
  have g : τ.ival 61 = (τ.ival 60 + 9223372036854775808) % 18446744073709551616 - 9223372036854775808 := (eqI (e.at 53 _ rfl rfl) rfl).trans (wr_i64 _)
  have b := wrB0_base e h
  have := uo60 e h
  omega
theorem uo62 {τ : Sig} (e : Eqs τ 8 wrB0G) (h : Cx false τ) : τ.ival 62 = 0 - τ.ival 61 := by
  have g : τ.ival 62 = (0 - τ.ival 61 + 9223372036854775808) % 18446744073709551616 - 9223372036854775808 := (eqI (e.at 54 _ rfl rfl) rfl).trans (wr_i64 _)
  have b := wrB0_base e h
  have := uo60 e h
  have := uo61 e h
  omega
theorem uo63 {τ : Sig} (e : Eqs τ 8 wrB0G) (h : Cx false τ) : τ.ival 63 = τ.ival 62 - 1 := by
  have g : τ.ival 63 = (τ.ival 62 - 1 + 9223372036854775808) % 18446744073709551616 - 9223372036854775808 := (eqI (e.at 55 _ rfl rfl) rfl).trans (wr_i64 _)
  have b := wrB0_base e h
  have := uo60 e h
  have := uo61 e h
  have := uo62 e h
  omega
theorem uo88 {τ : Sig} (e : Eqs τ 8 wrB0G) (h : Cx false τ) : τ.ival 88 = τ.ival 8 - τ.ival 44 := by
  have g : τ.ival 88 = (τ.ival 8 - τ.ival 44 + 9223372036854775808) % 18446744073709551616 - 9223372036854775808 := (eqI (e.at 80 _ rfl rfl) rfl).trans (wr_i64 _)
  have b := wrB0_base e h
  have := uo44 e h
  omega
theorem uo150 {τ : Sig} (e : Eqs τ 8 wrB0G) (h : Cx false τ) : τ.ival 150 = τ.ival 27 + τ.ival 28 := by
  have g : τ.ival 150 = (τ.ival 27 + τ.ival 28 + 9223372036854775808) % 18446744073709551616 - 9223372036854775808 := (eqI (e.at 142 _ rfl rfl) rfl).trans (wr_i64 _)
  have b := wrB0_base e h
  have := uo28 e h
  omega
theorem uo151 {τ : Sig} (e : Eqs τ 8 wrB0G) (h : Cx false τ) : τ.ival 151 = τ.ival 2 + τ.ival 150 := by
  have g : τ.ival 151 = (τ.ival 2 + τ.ival 150 + 9223372036854775808) % 18446744073709551616 - 9223372036854775808 := (eqI (e.at 143 _ rfl rfl) rfl).trans (wr_i64 _)
  have b := wrB0_base e h
  have := uo28 e h
  have := uo150 e h
  omega
theorem uo153 {τ : Sig} (e : Eqs τ 8 wrB0G) (h : Cx false τ) : bI (τ.bval 153) = 1 := by
  have g : τ.bval 153 = ((τ.sval 149).toList == (τ.sval 152).toList) := eqB (e.at 145 _ rfl rfl) rfl
  have g1 : τ.sval 149 = (τ.sval 3).extract (τ.ival 29).toNat (τ.ival 30).toNat := eqSub (e.at 141 _ rfl rfl) (show den τ (.symi .i64 29) = .int .i64 (τ.ival 29) from rfl) (show den τ (.symi .i64 30) = .int .i64 (τ.ival 30) from rfl)
  have g2 : τ.sval 152 = (τ.sval 3).extract (τ.ival 34).toNat (τ.ival 30).toNat := eqSub (e.at 144 _ rfl rfl) (show den τ (.symi .i64 34) = .int .i64 (τ.ival 34) from rfl) (show den τ (.symi .i64 30) = .int .i64 (τ.ival 30) from rfl)
  have b := wrB0_base e h
  have q28 := uo28 e h
  have q29 := uo29 e h
  have q30 := uo30 e h
  have q34 := uo34 e h
  exact ob_eqs g (by rw [g1, g2, show τ.ival 34 = τ.ival 29 by omega])
theorem uo156 {τ : Sig} (e : Eqs τ 8 wrB0G) (h : Cx false τ) : τ.ival 156 = τ.ival 8 - τ.ival 151 := by
  have g : τ.ival 156 = (τ.ival 8 - τ.ival 151 + 9223372036854775808) % 18446744073709551616 - 9223372036854775808 := (eqI (e.at 148 _ rfl rfl) rfl).trans (wr_i64 _)
  have b := wrB0_base e h
  have := uo28 e h
  have := uo150 e h
  have := uo151 e h
  omega
theorem uo157 {τ : Sig} (e : Eqs τ 8 wrB0G) (h : Cx false τ) : τ.ival 157 = τ.ival 8 - τ.ival 30 := by
  have g : τ.ival 157 = (τ.ival 8 - τ.ival 30 + 9223372036854775808) % 18446744073709551616 - 9223372036854775808 := (eqI (e.at 149 _ rfl rfl) rfl).trans (wr_i64 _)
  have b := wrB0_base e h
  have := uo28 e h
  have := uo29 e h
  have := uo30 e h
  omega
theorem uo172 {τ : Sig} (e : Eqs τ 8 wrB0G) (h : Cx false τ) : τ.ival 172 = τ.ival 2 + 0 := by
  have g : τ.ival 172 = (τ.ival 2 + 0 + 9223372036854775808) % 18446744073709551616 - 9223372036854775808 := (eqI (e.at 164 _ rfl rfl) rfl).trans (wr_i64 _)
  have b := wrB0_base e h
  omega
theorem uo174 {τ : Sig} (e : Eqs τ 8 wrB0G) (h : Cx false τ) : τ.ival 174 = τ.ival 8 - τ.ival 172 := by
  have g : τ.ival 174 = (τ.ival 8 - τ.ival 172 + 9223372036854775808) % 18446744073709551616 - 9223372036854775808 := (eqI (e.at 166 _ rfl rfl) rfl).trans (wr_i64 _)
  have b := wrB0_base e h
  have := uo172 e h
  omega
theorem uo181 {τ : Sig} (e : Eqs τ 8 wrB0G) (h : Cx false τ) : τ.ival 181 = τ.ival 180 := by
  have g : τ.ival 181 = (τ.ival 180 + 9223372036854775808) % 18446744073709551616 - 9223372036854775808 := (eqI (e.at 173 _ rfl rfl) rfl).trans (wr_i64 _)
  have b := wrB0_base e h
  have := uo180 e
  omega
theorem vo9 {τ : Sig} (e : Eqs τ 8 wrB1G) : (bI (τ.bval 9) = 1 ∧ (0 : Int) ≤ τ.ival 2) ∨ (bI (τ.bval 9) = 0 ∧ ¬ (0 : Int) ≤ τ.ival 2) := ob_dec (eqB (e.at 1 _ rfl rfl) rfl)
theorem vo10 {τ : Sig} (e : Eqs τ 8 wrB1G) : (bI (τ.bval 10) = 1 ∧ τ.ival 2 ≤ τ.ival 8) ∨ (bI (τ.bval 10) = 0 ∧ ¬ τ.ival 2 ≤ τ.ival 8) := ob_dec (eqB (e.at 2 _ rfl rfl) rfl)
theorem vo11 {τ : Sig} (e : Eqs τ 8 wrB1G) : (bI (τ.bval 11) = 1 ∧ τ.ival 8 ≤ 1000000) ∨ (bI (τ.bval 11) = 0 ∧ ¬ τ.ival 8 ≤ 1000000) := ob_dec (eqB (e.at 3 _ rfl rfl) rfl)
theorem vo12 {τ : Sig} (e : Eqs τ 8 wrB1G) : (bI (τ.bval 12) = 1 ∧ τ.ival 0 < τ.ival 1) ∨ (bI (τ.bval 12) = 0 ∧ ¬ τ.ival 0 < τ.ival 1) := ob_dec (eqB (e.at 4 _ rfl rfl) rfl)
theorem vo13 {τ : Sig} (e : Eqs τ 8 wrB1G) : (bI (τ.bval 13) = 1 ∧ τ.ival 0 < 50) ∨ (bI (τ.bval 13) = 0 ∧ ¬ τ.ival 0 < 50) := ob_dec (eqB (e.at 5 _ rfl rfl) rfl)
theorem vo14 {τ : Sig} (e : Eqs τ 8 wrB1G) : (bI (τ.bval 14) = 1 ∧ (0 : Int) ≤ τ.ival 0) ∨ (bI (τ.bval 14) = 0 ∧ ¬ (0 : Int) ≤ τ.ival 0) := ob_dec (eqB (e.at 6 _ rfl rfl) rfl)
theorem vo16 {τ : Sig} (e : Eqs τ 8 wrB1G) : (bI (τ.bval 16) = 1 ∧ τ.ival 15 = 1) ∨ (bI (τ.bval 16) = 0 ∧ ¬ τ.ival 15 = 1) := ob_eq (eqB (e.at 8 _ rfl rfl) rfl)
theorem vo17 {τ : Sig} (e : Eqs τ 8 wrB1G) : (bI (τ.bval 17) = 1 ∧ τ.ival 15 = 2) ∨ (bI (τ.bval 17) = 0 ∧ ¬ τ.ival 15 = 2) := ob_eq (eqB (e.at 9 _ rfl rfl) rfl)
theorem vo18 {τ : Sig} (e : Eqs τ 8 wrB1G) : (bI (τ.bval 18) = 1 ∧ τ.ival 15 = 3) ∨ (bI (τ.bval 18) = 0 ∧ ¬ τ.ival 15 = 3) := ob_eq (eqB (e.at 10 _ rfl rfl) rfl)
theorem vo19 {τ : Sig} (e : Eqs τ 8 wrB1G) : (bI (τ.bval 19) = 1 ∧ τ.ival 15 = 4) ∨ (bI (τ.bval 19) = 0 ∧ ¬ τ.ival 15 = 4) := ob_eq (eqB (e.at 11 _ rfl rfl) rfl)
theorem vo20 {τ : Sig} (e : Eqs τ 8 wrB1G) : (bI (τ.bval 20) = 1 ∧ τ.ival 15 = 5) ∨ (bI (τ.bval 20) = 0 ∧ ¬ τ.ival 15 = 5) := ob_eq (eqB (e.at 12 _ rfl rfl) rfl)
theorem vo21 {τ : Sig} (e : Eqs τ 8 wrB1G) : (bI (τ.bval 21) = 1 ∧ τ.ival 15 = 6) ∨ (bI (τ.bval 21) = 0 ∧ ¬ τ.ival 15 = 6) := ob_eq (eqB (e.at 13 _ rfl rfl) rfl)
theorem vo22 {τ : Sig} (e : Eqs τ 8 wrB1G) : (bI (τ.bval 22) = 1 ∧ τ.ival 15 = 7) ∨ (bI (τ.bval 22) = 0 ∧ ¬ τ.ival 15 = 7) := ob_eq (eqB (e.at 14 _ rfl rfl) rfl)
theorem vo23 {τ : Sig} (e : Eqs τ 8 wrB1G) : (bI (τ.bval 23) = 1 ∧ τ.ival 15 = 8) ∨ (bI (τ.bval 23) = 0 ∧ ¬ τ.ival 15 = 8) := ob_eq (eqB (e.at 15 _ rfl rfl) rfl)
theorem vo24 {τ : Sig} (e : Eqs τ 8 wrB1G) : (bI (τ.bval 24) = 1 ∧ ¬ τ.ival 4 = 0) ∨ (bI (τ.bval 24) = 0 ∧ τ.ival 4 = 0) := ob_ne (eqB (e.at 16 _ rfl rfl) rfl)
theorem vo25 {τ : Sig} (e : Eqs τ 8 wrB1G) : (bI (τ.bval 25) = 1 ∧ τ.ival 4 = 0) ∨ (bI (τ.bval 25) = 0 ∧ ¬ τ.ival 4 = 0) := ob_eq (eqB (e.at 17 _ rfl rfl) rfl)
theorem vo27 {τ : Sig} (e : Eqs τ 8 wrB1G) : (bI (τ.bval 27) = 1 ∧ τ.ival 4 = τ.ival 4) ∨ (bI (τ.bval 27) = 0 ∧ ¬ τ.ival 4 = τ.ival 4) := ob_eq (eqB (e.at 19 _ rfl rfl) rfl)
theorem vo28 {τ : Sig} (e : Eqs τ 8 wrB1G) : bI (τ.bval 28) = 1 - bI (τ.bval 27) ∧ 0 ≤ bI (τ.bval 27) ∧ bI (τ.bval 27) ≤ 1 := ob_not (eqB (e.at 20 _ rfl rfl) rfl)
theorem vo29 {τ : Sig} (e : Eqs τ 8 wrB1G) : τ.ival 29 = (τ.ival 0 + 1 + 9223372036854775808) % 18446744073709551616 - 9223372036854775808 := (eqI (e.at 21 _ rfl rfl) rfl).trans (wr_i64 _)
theorem wrB1_base {τ : Sig} (e : Eqs τ 8 wrB1G) (h : Cx true τ) : τ.ival 8 = ((τ.sval 3).size : Nat) ∧ 0 ≤ τ.ival 2 ∧ τ.ival 2 ≤ τ.ival 8 ∧ τ.ival 8 ≤ 200 ∧ 0 ≤ τ.ival 0 ∧ τ.ival 0 ≤ τ.ival 1 ∧ τ.ival 1 ≤ 9223372036854775807 ∧ ¬ τ.ival 4 = 0 ∧ -32768 ≤ τ.ival 7 ∧ τ.ival 7 < 32768 := by
  have h8 : τ.ival 8 = ((τ.sval 3).size : Nat) := eqLen (e.at 0 _ rfl rfl)
  have j1 := h.j.lo
  have j2 := h.j.hi
  have j3 := h.j.sz
  exact ⟨h8, j1, by omega, by omega, h.i0, h.i1, h.i2, h.j.code rfl, h.k.1, h.k.2⟩

/-! ### The walk -/
def EE (X : Fz) (O : Obj) : Nat → Option Fz := fun i => if i = 0 then some X else if i = 1 then some (errRow O) else none
theorem EE_inv {X : Fz} {O : Obj} (hO : isErr O) {σ : Sig} (h : σ.ext = EE X O) : OwnInv 0 isErr σ := own_inv (r := 1) hO (by rw [h]; rfl)

abbrev WZ (W : World) : Exit → Act → World → Prop := bodyPost Tryd.prog Tryd.f5 (fun e W' => e = .returned (.bool true) ∧ Below W.heap.size W W')
abbrev LZ (W : World) (X : Fz) (O : Obj) (k : Nat) : Exit → Act → World → Prop :=
  LoopZ Tryd.prog (idOf (bodyOf Tryd.f5)) ((flatC (bodyOf Tryd.f5)).drop 5) (WZ W) (InvF wnTab 76 W wrS 6 wrK (fun b σ => RowE (EE X O) X σ ∧ J b σ) (fun σ => ((X.len : Int) - σ.ival 0).toNat)) k

theorem nextJ {W : World} {v1 : Value} {X : Fz} {O : Obj} {k : Nat} {τ : Sig} {b0 b : Bool} (hX : RowV W wrC2 v1 X) (he : RowE (EE X O) X τ) (hix : ((X.len : Int) - τ.ival 0).toNat = k) (h : Cx b0 τ) {l : Asg} (hi : InsOk (asgS τ l) 6 wrK)
    (hsx : (asgS τ l).sval 3 = τ.sval 3 ∧ (asgS τ l).ival 1 = τ.ival 1) (h0 : τ.ival 0 + 1 = (asgS τ l).ival 0) (hlt : τ.ival 0 < τ.ival 1) (h2 : 0 ≤ (asgS τ l).ival 2) (h3 : (asgS τ l).ival 2 ≤ τ.ival 8) (h4 : b = true → ¬ (asgS τ l).ival 4 = 0) (h8 : τ.ival 8 = ((τ.sval 3).size : Nat)) :
    EndZ wnTab 76 W (LZ W X O k) .normal (wrS b) (asgS τ l) := by
  have hl := he.len
  refine EndZ.loopF b rfl hi ⟨⟨he.ext, by rw [hsx.2]; exact hl, by rw [← h0]; have := he.lo; omega, by rw [← h0]; omega⟩, ⟨h2, by rw [hsx.1, ← h8]; exact h3, by rw [hsx.1]; exact h.j.sz, fun hb => h4 hb⟩⟩ h.ht ?_
  show ((X.len : Int) - (asgS τ l).ival 0).toNat < k
  rw [← h0]; omega
theorem base8 {τ : Sig} {G : List SDef} (e : Eqs τ 8 (.sop .len [.syms 3] :: G)) : τ.ival 8 = ((τ.sval 3).size : Nat) := eqLen (e.at 0 _ rfl rfl)

set_option maxHeartbeats 0 in
theorem round1 {W : World} {v1 : Value} {X : Fz} {O : Obj} {k : Nat} (hX : RowV W wrC2 v1 X) (hC : Stage Tryd.prog wnTab 76 W (WZ W) ((flatC (bodyOf Tryd.f5)).drop 5) wrSe 0 [] (fun σ => σ.ext = EE X O)) (τ : Sig) (e : Eqs τ 8 wrB1G) (ht : τ.tab = wnTab) (hi : InsOk τ 8 wrKe) (he : RowE (EE X O) X τ) (hj : J true τ) (hix : ((X.len : Int) - τ.ival 0).toNat = k) :
    segsW τ (EndZ wnTab 76 W (LZ W X O k)) wrB1W [] := by
  have hE : τ.ext = EE X O := he.ext
  have hk := hi 7 .i16 (by decide) rfl
  rw [wr_i16] at hk
  have hl := hX.len
  have h : Cx true τ := ⟨hj, ht, he.lo, by rw [he.len]; exact he.hi, by rw [he.len]; exact hl, by omega, by omega⟩
  have b := wrB1_base e h
  refine segsPw_segs ?_
  exact ⟨fun f0 => have p0 := ob_rT (vo24 e) f0; ⟨fun f1 => have p1 := ob_rT (vo25 e) f1; (by omega),
 fun f1 => have p1 := ob_rF (vo25 e) f1; ⟨fun f2 => have p2 := ob_rT (vo9 e) f2; ⟨fun f3 => have p3 := ob_rT (vo10 e) f3; ⟨fun f4 => have p4 := ob_rT (vo11 e) f4; ⟨fun f5 => have p5 := ob_rT (vo14 e) f5; ⟨fun f6 => have p6 := ob_rT (vo12 e) f6; ⟨fun f7 => have p7 := ob_rT (vo13 e) f7; ⟨fun f8 => have p8 := ob_rT (vo16 e) f8; ⟨fun f9 => have q9 := vo28 e; have t9 := ob_T f9; (by have := vo27 e; have := vo28 e; omega),
 fun f9 => have q9 := vo28 e; have t9 := ob_F f9; (by have := vo29 e; have r : τ.ival 0 + 1 = τ.ival 29 ∧ τ.ival 0 < τ.ival 1 ∧ (0 : Int) ≤ τ.ival 2 ∧ τ.ival 2 ≤ τ.ival 8 ∧ ¬ (τ.ival 4 : Int) = 0 := (by refine ⟨?_, ?_, ?_, ?_, ?_⟩ <;> omega); exact nextJ hX he hix h (insOk_kt (X := wrB1X) e hi wrB1_kt (by kernel_rfl)) ⟨rfl, rfl⟩ r.1 r.2.1 r.2.2.1 r.2.2.2.1 (fun _ => r.2.2.2.2) (base8 e))⟩,
 fun f8 => have p8 := ob_rF (vo16 e) f8; ⟨fun f9 => have p9 := ob_rT (vo17 e) f9; ⟨fun f10 => have q10 := vo28 e; have t10 := ob_T f10; (by have := vo27 e; have := vo28 e; omega),
 fun f10 => have q10 := vo28 e; have t10 := ob_F f10; (by have := vo29 e; have r : τ.ival 0 + 1 = τ.ival 29 ∧ τ.ival 0 < τ.ival 1 ∧ (0 : Int) ≤ τ.ival 2 ∧ τ.ival 2 ≤ τ.ival 8 ∧ ¬ (τ.ival 4 : Int) = 0 := (by refine ⟨?_, ?_, ?_, ?_, ?_⟩ <;> omega); exact nextJ hX he hix h (insOk_kt (X := wrB1X) e hi wrB1_kt (by kernel_rfl)) ⟨rfl, rfl⟩ r.1 r.2.1 r.2.2.1 r.2.2.2.1 (fun _ => r.2.2.2.2) (base8 e))⟩,
 fun f9 => have p9 := ob_rF (vo17 e) f9; ⟨fun f10 => have p10 := ob_rT (vo18 e) f10; ⟨fun f11 => have q11 := vo28 e; have t11 := ob_T f11; (by have := vo27 e; have := vo28 e; omega),
 fun f11 => have q11 := vo28 e; have t11 := ob_F f11; (by have := vo29 e; have r : τ.ival 0 + 1 = τ.ival 29 ∧ τ.ival 0 < τ.ival 1 ∧ (0 : Int) ≤ τ.ival 2 ∧ τ.ival 2 ≤ τ.ival 8 ∧ ¬ (τ.ival 4 : Int) = 0 := (by refine ⟨?_, ?_, ?_, ?_, ?_⟩ <;> omega); exact nextJ hX he hix h (insOk_kt (X := wrB1X) e hi wrB1_kt (by kernel_rfl)) ⟨rfl, rfl⟩ r.1 r.2.1 r.2.2.1 r.2.2.2.1 (fun _ => r.2.2.2.2) (base8 e))⟩,
 fun f10 => have p10 := ob_rF (vo18 e) f10; ⟨fun f11 => have p11 := ob_rT (vo19 e) f11; ⟨fun f12 => have q12 := vo28 e; have t12 := ob_T f12; (by have := vo27 e; have := vo28 e; omega),
 fun f12 => have q12 := vo28 e; have t12 := ob_F f12; (by have := vo29 e; have r : τ.ival 0 + 1 = τ.ival 29 ∧ τ.ival 0 < τ.ival 1 ∧ (0 : Int) ≤ τ.ival 2 ∧ τ.ival 2 ≤ τ.ival 8 ∧ ¬ (τ.ival 4 : Int) = 0 := (by refine ⟨?_, ?_, ?_, ?_, ?_⟩ <;> omega); exact nextJ hX he hix h (insOk_kt (X := wrB1X) e hi wrB1_kt (by kernel_rfl)) ⟨rfl, rfl⟩ r.1 r.2.1 r.2.2.1 r.2.2.2.1 (fun _ => r.2.2.2.2) (base8 e))⟩,
 fun f11 => have p11 := ob_rF (vo19 e) f11; ⟨fun f12 => have p12 := ob_rT (vo20 e) f12; ⟨fun f13 => have q13 := vo28 e; have t13 := ob_T f13; (by have := vo27 e; have := vo28 e; omega),
 fun f13 => have q13 := vo28 e; have t13 := ob_F f13; (by have := vo29 e; have r : τ.ival 0 + 1 = τ.ival 29 ∧ τ.ival 0 < τ.ival 1 ∧ (0 : Int) ≤ τ.ival 2 ∧ τ.ival 2 ≤ τ.ival 8 ∧ ¬ (τ.ival 4 : Int) = 0 := (by refine ⟨?_, ?_, ?_, ?_, ?_⟩ <;> omega); exact nextJ hX he hix h (insOk_kt (X := wrB1X) e hi wrB1_kt (by kernel_rfl)) ⟨rfl, rfl⟩ r.1 r.2.1 r.2.2.1 r.2.2.2.1 (fun _ => r.2.2.2.2) (base8 e))⟩,
 fun f12 => have p12 := ob_rF (vo20 e) f12; ⟨fun f13 => have p13 := ob_rT (vo21 e) f13; ⟨fun f14 => have q14 := vo28 e; have t14 := ob_T f14; (by have := vo27 e; have := vo28 e; omega),
 fun f14 => have q14 := vo28 e; have t14 := ob_F f14; (by have := vo29 e; have r : τ.ival 0 + 1 = τ.ival 29 ∧ τ.ival 0 < τ.ival 1 ∧ (0 : Int) ≤ τ.ival 2 ∧ τ.ival 2 ≤ τ.ival 8 ∧ ¬ (τ.ival 4 : Int) = 0 := (by refine ⟨?_, ?_, ?_, ?_, ?_⟩ <;> omega); exact nextJ hX he hix h (insOk_kt (X := wrB1X) e hi wrB1_kt (by kernel_rfl)) ⟨rfl, rfl⟩ r.1 r.2.1 r.2.2.1 r.2.2.2.1 (fun _ => r.2.2.2.2) (base8 e))⟩,
 fun f13 => have p13 := ob_rF (vo21 e) f13; ⟨fun f14 => have p14 := ob_rT (vo22 e) f14; ⟨fun f15 => have q15 := vo28 e; have t15 := ob_T f15; (by have := vo27 e; have := vo28 e; omega),
 fun f15 => have q15 := vo28 e; have t15 := ob_F f15; (by have := vo29 e; have r : τ.ival 0 + 1 = τ.ival 29 ∧ τ.ival 0 < τ.ival 1 ∧ (0 : Int) ≤ τ.ival 2 ∧ τ.ival 2 ≤ τ.ival 8 ∧ ¬ (τ.ival 4 : Int) = 0 := (by refine ⟨?_, ?_, ?_, ?_, ?_⟩ <;> omega); exact nextJ hX he hix h (insOk_kt (X := wrB1X) e hi wrB1_kt (by kernel_rfl)) ⟨rfl, rfl⟩ r.1 r.2.1 r.2.2.1 r.2.2.2.1 (fun _ => r.2.2.2.2) (base8 e))⟩,
 fun f14 => have p14 := ob_rF (vo22 e) f14; ⟨fun f15 => have p15 := ob_rT (vo23 e) f15; ⟨fun f16 => have q16 := vo28 e; have t16 := ob_T f16; (by have := vo27 e; have := vo28 e; omega),
 fun f16 => have q16 := vo28 e; have t16 := ob_F f16; (by have := vo29 e; have r : τ.ival 0 + 1 = τ.ival 29 ∧ τ.ival 0 < τ.ival 1 ∧ (0 : Int) ≤ τ.ival 2 ∧ τ.ival 2 ≤ τ.ival 8 ∧ ¬ (τ.ival 4 : Int) = 0 := (by refine ⟨?_, ?_, ?_, ?_, ?_⟩ <;> omega); exact nextJ hX he hix h (insOk_kt (X := wrB1X) e hi wrB1_kt (by kernel_rfl)) ⟨rfl, rfl⟩ r.1 r.2.1 r.2.2.1 r.2.2.2.1 (fun _ => r.2.2.2.2) (base8 e))⟩,
 fun f15 => have p15 := ob_rF (vo23 e) f15; ⟨fun f16 => have q16 := vo28 e; have t16 := ob_T f16; (by have := vo27 e; have := vo28 e; omega),
 fun f16 => have q16 := vo28 e; have t16 := ob_F f16; (by have := vo29 e; have r : τ.ival 0 + 1 = τ.ival 29 ∧ τ.ival 0 < τ.ival 1 ∧ (0 : Int) ≤ τ.ival 2 ∧ τ.ival 2 ≤ τ.ival 8 ∧ ¬ (τ.ival 4 : Int) = 0 := (by refine ⟨?_, ?_, ?_, ?_, ?_⟩ <;> omega); exact nextJ hX he hix h (insOk_kt (X := wrB1X) e hi wrB1_kt (by kernel_rfl)) ⟨rfl, rfl⟩ r.1 r.2.1 r.2.2.1 r.2.2.2.1 (fun _ => r.2.2.2.2) (base8 e))⟩⟩⟩⟩⟩⟩⟩⟩⟩,
 fun f7 => have p7 := ob_rF (vo13 e) f7; (by exact .out (by simp) (.blk hC (.inr rfl) (fun i k hi => absurd hi (Nat.not_lt_zero i)) hE ht))⟩,
 fun f6 => have p6 := ob_rF (vo12 e) f6; (by exact .out (by simp) (.blk hC (.inr rfl) (fun i k hi => absurd hi (Nat.not_lt_zero i)) hE ht))⟩,
 fun f5 => have p5 := ob_rF (vo14 e) f5; (by omega)⟩,
 fun f4 => have p4 := ob_rF (vo11 e) f4; (by omega)⟩,
 fun f3 => have p3 := ob_rF (vo10 e) f3; (by omega)⟩,
 fun f2 => have p2 := ob_rF (vo9 e) f2; (by omega)⟩⟩,
 fun f0 => have p0 := ob_rF (vo24 e) f0; (by omega)⟩

end Go.Proofs.YtapfkgenachpgaaDoor.wr
