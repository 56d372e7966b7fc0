/-
  The contract of ploverref11.bit: whether a byte, n times halved, is odd.
  No conditions.
-/
import Derived.Test.YtgifnmiggloclabChecked
import Derived.WalkKit
import Derived.ProofKit
import Derived.Test.YtgifnmiggloclabEwZl
namespace Go.Proofs.Ytgifnmiggloclab.bi
open Go.RowKit Go.Ev
set_option linter.unusedVariables false
set_option linter.unusedSimpArgs false

theorem mixed : Try.prog.follows .mixedOrders = true := Checked.mixed Try.checked
def biSs : List Sh := [.one (.i .u8), .one (.i .i64)]
def biS0 : Shape := ⟨argT 0 (symSh biSs 0), []⟩
def biS1 : Shape := ⟨[(0, .symi .u8 0), (1, .symi .i64 1), (5, .symi .i64 2)], []⟩
def biS2 : Shape := ⟨[(0, .symi .u8 0)], []⟩
def biSE : Shape := ⟨[(4, .symb 0)], []⟩
def biK : List (Option IntKind) := [some .u8, some .i64]
def biK1 : List (Option IntKind) := [some .u8, some .i64, some .i64]

def biAG : List SDef := []

def biAT : LT := .e

def biAW : Sw := .run (.leaf .normal biS1 [] [(0, .symi .u8 0), (1, .symi .i64 1), (2, .int .i64 0)] [])
def biBG : List SDef := [.bin .lss (.symi .i64 2) (.symi .i64 1),
  .bin .quo (.symi .u8 0) (.int .u8 2),
  .bin .add (.symi .i64 2) (.int .i64 1)]

def biBT : LT := .n (.n (.e) 110408 4 (.bin .quo (.symi .u8 0) (.int .u8 2)) (.e)) 202060958 5 (.bin .add (.symi .i64 2) (.int .i64 1)) (.n (.e) 545384606 3 (.bin .lss (.symi .i64 2) (.symi .i64 1)) (.e))

def biBW : Sw := .run (.node 3 (.leaf .normal biS1 [] [(0, .symi .u8 4), (1, .symi .i64 1), (2, .symi .i64 5)] []) (.leaf (.exit 0) biS2 [] [(0, .symi .u8 0)] []))
def biCG : List SDef := [.bin .rem (.symi .u8 0) (.int .u8 2),
  .bin .eql (.symi .u8 1) (.int .u8 1)]

def biCT : LT := .n (.n (.e) 110415 1 (.bin .rem (.symi .u8 0) (.int .u8 2)) (.e)) 101060732 2 (.bin .eql (.symi .u8 1) (.int .u8 1)) (.e)

def biCW : Sw := .run (.leaf .ret biSE [] [(0, .symb 2)] [])

def biAX : Ing := { m := 2, ins := biK, G := biAG, T := biAT }
theorem biA_ok : okG biAG 2 = true := by kernel_rfl
theorem biA_lt : okLT 2 biAG biAT = true := by kernel_rfl
theorem biA_seg : SegOk Try.prog noTab 16 ((flatC (bodyOf Try.f108)).take 2) biS0 biAX biAW where
  lt := biA_lt
  ok := biA_ok
  hook := fun F => no_hooks rfl F
  n0 := rfl
  id := by kernel_rfl
  reck := by kernel_rfl
  tab := rfl
  cuts := rfl
def biBX : Ing := { m := 3, ins := biK1, G := biBG, T := biBT }
theorem biB_ok : okG biBG 3 = true := by kernel_rfl
theorem biB_lt : okLT 3 biBG biBT = true := by kernel_rfl
theorem biB_seg : SegOk Try.prog noTab 16 ([loopAt 2 (bodyOf Try.f108)]) biS1 biBX biBW where
  lt := biB_lt
  ok := biB_ok
  hook := fun F => no_hooks rfl F
  n0 := rfl
  id := by kernel_rfl
  reck := by kernel_rfl
  tab := rfl
  cuts := rfl
def biCX : Ing := { m := 1, ins := [some .u8], G := biCG, T := biCT }
theorem biC_ok : okG biCG 1 = true := by kernel_rfl
theorem biC_lt : okLT 1 biCG biCT = true := by kernel_rfl
theorem biC_seg : SegOk Try.prog noTab 16 ((flatC (bodyOf Try.f108)).drop 3) biS2 biCX biCW where
  lt := biC_lt
  ok := biC_ok
  hook := fun F => no_hooks rfl F
  n0 := rfl
  id := by kernel_rfl
  reck := by kernel_rfl
  tab := rfl
  cuts := rfl

def bitF (l : List Int) : List Int := [if l.getD 0 0 / 2 ^ (l.getD 1 0).toNat % 2 = 1 then 1 else 0]

theorem w64 {n : Int} (h0 : -9223372036854775808 ≤ n) (h1 : n ≤ 9223372036854775807) : IntKind.i64.wrap n = n := by
  simp [IntKind.wrap, IntKind.bits, IntKind.signed]; omega

theorem bit_contract : FnOk Try.prog 108 biSs [.one .b] bitF := by
  refine fn_of_stage (tab := noTab) (n := 16) Try.func108 (by kernel_rfl) (by kernel_rfl) (by simp [encS, biSs]) fun l W hl => ?_
  have c1 : flatC (bodyOf Try.f108) = (flatC (bodyOf Try.f108)).take 2 ++ (.block 0 (.loop (loopAt 2 (bodyOf Try.f108))) :: (flatC (bodyOf Try.f108)).drop 3) := rfl
  rw [c1]
  have l0 : 0 ≤ l.getD 0 0 ∧ l.getD 0 0 ≤ 255 := by
    have := inR_get hl 0 .u8 rfl
    generalize l.getD 0 0 = x at this ⊢
    simp [IntKind.wrap, IntKind.bits, IntKind.signed] at this; omega
  have l1 : l.getD 1 0 ≤ 9223372036854775807 := by
    have := inR_get hl 1 .i64 rfl
    generalize l.getD 1 0 = x at this ⊢
    simp [IntKind.wrap, IntKind.bits, IntKind.signed] at this; omega
  refine Stage.seg (q2 := 3) (ins2 := biK1) (S2 := biS1) (J2 := fun σ => σ.ival 1 = l.getD 1 0 ∧ 0 ≤ σ.ival 2 ∧ (σ.ival 2 ≤ l.getD 1 0 ∨ σ.ival 2 = 0) ∧ σ.ival 0 = l.getD 0 0 / 2 ^ (σ.ival 2).toNat) mixed biA_seg ⟨rfl, rfl⟩ (fun σ τ ag h i hi => by rw [← (ag.val i hi).1]; exact h i hi) (fun _ _ => rows_nil) ?_ ?_
  · refine Stage.loop (q2 := 1) (ins2 := [some .u8]) (S2 := biS2) (J2 := fun σ => σ.ival 0 = l.getD 0 0 / 2 ^ (l.getD 1 0).toNat) (μ := fun σ => (l.getD 1 0 - σ.ival 2).toNat) mixed biB_seg ⟨rfl, rfl⟩ ?_ ?_ (fun _ _ => rows_nil) ?_ ?_
    · intro σ τ ag h
      rw [← (ag.val 0 (by decide)).1, ← (ag.val 1 (by decide)).1, ← (ag.val 2 (by decide)).1]; exact h
    · intro σ τ ag
      show (l.getD 1 0 - σ.ival 2).toNat = (l.getD 1 0 - τ.ival 2).toNat
      rw [(ag.val 2 (by decide)).1]
    · refine Stage.last mixed biC_seg ⟨rfl, rfl⟩ (fun σ τ ag h => by rw [← (ag.val 0 (by decide)).1]; exact h) (fun _ _ => rows_nil) ?_
      intro τ e ht hi hj
      have e1 : τ.ival 1 = ((τ.ival 0 : Int).tmod 2) := eqI (e.at 0 _ rfl rfl) rfl
      have e2 : τ.bval 2 = (τ.ival 1 == 1) := eqB (e.at 1 _ rfl rfl) rfl
      refine fun hF => endZ_res (outs := [.one .b]) (l := bitF l) (vs := [.symb 0]) (by kernel_rfl) ?_ (.inl rfl)
      refine ⟨?_, trivial⟩
      show AVal.bool (τ.bval 2) = AVal.bool (!((bitF l).getD 0 0 == 0))
      have h0 : 0 ≤ τ.ival 0 := by rw [hj]; exact Int.ediv_nonneg l0.1 (Int.le_of_lt (Int.pow_pos (by decide)))
      rw [e2, e1, Int.tmod_eq_emod_of_nonneg h0, hj]
      unfold bitF
      generalize l.getD 0 0 / 2 ^ (l.getD 1 0).toNat % 2 = x
      by_cases hc : x = 1
      · subst hc; rfl
      · simp [hc]
    · intro τ e ht hi hj
      obtain ⟨j1, j2, j3, j4⟩ := hj
      have e3 : τ.bval 3 = decide (τ.ival 2 < τ.ival 1) := eqB (e.at 0 _ rfl rfl) rfl
      have e4 : τ.ival 4 = IntKind.u8.wrap ((τ.ival 0 : Int).tdiv 2) := eqI (e.at 1 _ rfl rfl) rfl
      have e5 : τ.ival 5 = IntKind.i64.wrap (τ.ival 2 + 1) := eqI (e.at 2 _ rfl rfl) rfl
      refine ⟨fun hF => .inl ⟨rfl, rfl, insOk_asg e hi 8 (by kernel_rfl), ?_, ht, ?_⟩, fun hF => .inr (.inl ⟨rfl, rfl, insOk_asg e hi 8 (by kernel_rfl), ?_, ht⟩)⟩
      · have h3 : τ.bval 3 = true := hF.1
        rw [e3, decide_eq_true_eq, j1] at h3
        have k5 : τ.ival 5 = τ.ival 2 + 1 := by
          rw [e5]
          exact w64 (by omega) (by omega)
        have p1 : 0 ≤ τ.ival 0 ∧ τ.ival 0 ≤ 255 := by
          have := hi 0 .u8 (by decide) rfl
          simp [IntKind.wrap, IntKind.bits, IntKind.signed] at this; omega
        have k4 : τ.ival 4 = τ.ival 0 / 2 := by
          rw [e4, Int.tdiv_eq_ediv_of_nonneg p1.1]
          simp [IntKind.wrap, IntKind.bits, IntKind.signed]; omega
        refine ⟨j1, by show 0 ≤ τ.ival 5; omega, .inl (by show τ.ival 5 ≤ _; omega), ?_⟩
        show τ.ival 4 = l.getD 0 0 / 2 ^ (τ.ival 5).toNat
        rw [k4, j4, k5, show (τ.ival 2 + 1).toNat = (τ.ival 2).toNat + 1 by omega, Int.pow_succ, Int.ediv_ediv_of_nonneg (Int.le_of_lt (Int.pow_pos (by decide)))]
      · have h3 : τ.bval 3 = true := hF.1
        rw [e3, decide_eq_true_eq, j1] at h3
        have k5 : τ.ival 5 = τ.ival 2 + 1 := by
          rw [e5]
          exact w64 (by omega) (by omega)
        show (l.getD 1 0 - τ.ival 5).toNat < (l.getD 1 0 - τ.ival 2).toNat
        omega
      · have h3 : τ.bval 3 = false := hF.1
        rw [e3, decide_eq_false_iff_not, j1] at h3
        show τ.ival 0 = l.getD 0 0 / 2 ^ (l.getD 1 0).toNat
        rw [j4, show (τ.ival 2).toNat = (l.getD 1 0).toNat by omega]
  · intro τ e ht hi hj
    refine fun hF => .inl ⟨rfl, rfl, insOk_asg e hi 8 (by kernel_rfl), ?_, ht⟩
    refine ⟨hj 1 (by decide), by show (0 : Int) ≤ 0; decide, .inr rfl, ?_⟩
    show τ.ival 0 = l.getD 0 0 / 2 ^ (0 : Int).toNat
    rw [hj 0 (by decide)]
    simp
end Go.Proofs.Ytgifnmiggloclab.bi
