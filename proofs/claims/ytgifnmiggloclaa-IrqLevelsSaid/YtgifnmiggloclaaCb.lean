/-
  What is chosen is the one vector that may be, and is the best: laws of chooseF.
  No conditions.
-/
import Derived.Test.YtgifnmiggloclaaCk
import Derived.ProofKit
namespace Go.Proofs.Ytgifnmiggloclaa.cb
open Go.RowKit Go.Ev Go.Proofs.Ytgifnmiggloclaa.ck
set_option linter.unusedVariables false
set_option linter.unusedSimpArgs false

def IsBest (may : Nat → Bool) (p : Int → Int) (n : Nat) (b : Int) : Prop :=
  (b = -1 ∧ ∀ v, v < n → may v = false) ∨ ∃ k : Nat, k < n ∧ b = k ∧ may k = true ∧ ∀ v : Nat, v < n → may v = true → p v < p k ∨ (p v = p k ∧ k ≤ v)

def bestG (may : Nat → Bool) (p : Int → Int) : Nat → Int
  | 0 => -1
  | v + 1 => nextI (may v) (p v) (p (bestG may p v)) (bestG may p v) v

theorem bestG_is (may : Nat → Bool) (p : Int → Int) : ∀ n, IsBest may p n (bestG may p n)
  | 0 => .inl ⟨rfl, fun v h => absurd h (by omega)⟩
  | n + 1 => by
    have ih := bestG_is may p n
    simp only [bestG, nextI]
    rcases ih with ⟨e, h⟩ | ⟨k, hk, e, hm, h⟩
    · rw [e]
      cases hn : may n with
      | false =>
        simp only [Bool.false_and, cond_false]
        refine .inl ⟨rfl, fun v hv => ?_⟩
        by_cases hvn : v = n
        · subst hvn; exact hn
        · exact h v (by omega)
      | true =>
        simp only [Bool.true_and, show decide ((-1 : Int) < 0) = true from rfl, Bool.true_or, cond_true]
        refine .inr ⟨n, by omega, rfl, hn, fun v hv hmv => ?_⟩
        by_cases hvn : v = n
        · subst hvn; exact .inr ⟨rfl, Nat.le_refl _⟩
        · rw [h v (by omega)] at hmv; cases hmv
    · rw [e]
      cases hn : may n with
      | false =>
        simp only [Bool.false_and, cond_false]
        refine .inr ⟨k, by omega, rfl, hm, fun v hv hmv => ?_⟩
        by_cases hvn : v = n
        · subst hvn; rw [hn] at hmv; cases hmv
        · exact h v (by omega) hmv
      | true =>
        have h0 : decide ((k : Int) < 0) = false := by rw [decide_eq_false_iff_not]; omega
        simp only [Bool.true_and, h0, Bool.false_or]
        by_cases hp : p n > p k
        · rw [decide_eq_true hp, cond_true]
          refine .inr ⟨n, by omega, rfl, hn, fun v hv hmv => ?_⟩
          by_cases hvn : v = n
          · subst hvn; exact .inr ⟨rfl, Nat.le_refl _⟩
          · rcases h v (by omega) hmv with h1 | h1
            · left; omega
            · left; omega
        · rw [decide_eq_false hp, cond_false]
          refine .inr ⟨k, by omega, rfl, hm, fun v hv hmv => ?_⟩
          by_cases hvn : v = n
          · subst hvn
            by_cases he : p v = p k
            · exact .inr ⟨he, by omega⟩
            · left; omega
          · exact h v (by omega) hmv

theorem IsBest.unique {may : Nat → Bool} {p : Int → Int} {n : Nat} {a b : Int} (ha : IsBest may p n a) (hb : IsBest may p n b) : a = b := by
  rcases ha with ⟨e, h⟩ | ⟨k, hk, e, hm, h⟩
  · rcases hb with ⟨e', _⟩ | ⟨k', hk', e', hm', _⟩
    · rw [e, e']
    · rw [h k' hk'] at hm'; cases hm'
  · rcases hb with ⟨e', h'⟩ | ⟨k', hk', e', hm', h'⟩
    · rw [h' k hk] at hm; cases hm
    · rw [e, e']
      have h1 := h k' hk' hm'
      have h2 := h' k hk hm
      omega

theorem IsBest.congr {may may' : Nat → Bool} {p : Int → Int} {n : Nat} {b : Int} (h : IsBest may p n b) (e : ∀ v, v < n → may' v = may v) : IsBest may' p n b := by
  rcases h with ⟨e1, h⟩ | ⟨k, hk, e1, hm, h⟩
  · exact .inl ⟨e1, fun v hv => by rw [e v hv]; exact h v hv⟩
  · exact .inr ⟨k, hk, e1, by rw [e k hk]; exact hm, fun v hv hmv => h v hv (by rw [← e v hv]; exact hmv)⟩

theorem best8_is (mask pend p0 p1 p2 p3 p4 p5 p6 p7 lev masked : Int) (n : Nat) :
    best8 mask pend p0 p1 p2 p3 p4 p5 p6 p7 lev masked n = bestG (fun v => mayI mask pend masked lev (prAt p0 p1 p2 p3 p4 p5 p6 p7 v) v) (prAt p0 p1 p2 p3 p4 p5 p6 p7) n := by
  induction n with
  | zero => rfl
  | succ n ih => simp only [best8, bestG]; rw [ih]

theorem best_iff {mask pend p0 p1 p2 p3 p4 p5 p6 p7 lev masked b : Int} (h : IsBest (fun v => mayI mask pend masked lev (prAt p0 p1 p2 p3 p4 p5 p6 p7 v) v) (prAt p0 p1 p2 p3 p4 p5 p6 p7) 8 b) :
    best8 mask pend p0 p1 p2 p3 p4 p5 p6 p7 lev masked 8 = b := by
  rw [best8_is]; exact (bestG_is _ _ 8).unique h

theorem best_range (mask pend p0 p1 p2 p3 p4 p5 p6 p7 lev masked : Int) : -1 ≤ best8 mask pend p0 p1 p2 p3 p4 p5 p6 p7 lev masked 8 ∧ best8 mask pend p0 p1 p2 p3 p4 p5 p6 p7 lev masked 8 ≤ 7 := by
  rw [best8_is]
  rcases bestG_is (fun v => mayI mask pend masked lev (prAt p0 p1 p2 p3 p4 p5 p6 p7 v) v) (prAt p0 p1 p2 p3 p4 p5 p6 p7) 8 with ⟨e, _⟩ | ⟨k, hk, e, _⟩ <;> omega

/-- at each level: the best one of all, if it is above the level -/
theorem best_level {mask pend p0 p1 p2 p3 p4 p5 p6 p7 lev masked : Int} (h0 : 0 ≤ lev) :
    best8 mask pend p0 p1 p2 p3 p4 p5 p6 p7 lev masked 8 =
      if 0 ≤ best8 mask pend p0 p1 p2 p3 p4 p5 p6 p7 0 masked 8 ∧ lev < prAt p0 p1 p2 p3 p4 p5 p6 p7 (best8 mask pend p0 p1 p2 p3 p4 p5 p6 p7 0 masked 8) then best8 mask pend p0 p1 p2 p3 p4 p5 p6 p7 0 masked 8 else -1 := by
  refine best_iff ?_
  have hb := bestG_is (fun v => mayI mask pend masked 0 (prAt p0 p1 p2 p3 p4 p5 p6 p7 v) v) (prAt p0 p1 p2 p3 p4 p5 p6 p7) 8
  rw [← best8_is] at hb
  generalize best8 mask pend p0 p1 p2 p3 p4 p5 p6 p7 0 masked 8 = b at hb ⊢
  have hsub : ∀ v : Nat, mayI mask pend masked lev (prAt p0 p1 p2 p3 p4 p5 p6 p7 v) v = (mayI mask pend masked 0 (prAt p0 p1 p2 p3 p4 p5 p6 p7 v) v && decide (prAt p0 p1 p2 p3 p4 p5 p6 p7 v > lev)) := by
    intro v
    unfold mayI
    by_cases h : prAt p0 p1 p2 p3 p4 p5 p6 p7 v > lev
    · rw [decide_eq_true h, decide_eq_true (show prAt p0 p1 p2 p3 p4 p5 p6 p7 v > 0 by omega)]; simp
    · rw [decide_eq_false h]; simp
  rcases hb with ⟨e, h⟩ | ⟨k, hk, e, hm, h⟩
  · rw [if_neg (by omega)]
    refine .inl ⟨rfl, fun v hv => ?_⟩
    show mayI mask pend masked lev _ v = false
    rw [hsub, show mayI mask pend masked 0 (prAt p0 p1 p2 p3 p4 p5 p6 p7 v) v = false from h v hv]; rfl
  · subst e
    by_cases hl : lev < prAt p0 p1 p2 p3 p4 p5 p6 p7 k
    · rw [if_pos ⟨by omega, hl⟩]
      refine .inr ⟨k, hk, rfl, ?_, fun v hv hmv => ?_⟩
      · show mayI mask pend masked lev _ k = true
        rw [hsub, show mayI mask pend masked 0 (prAt p0 p1 p2 p3 p4 p5 p6 p7 k) k = true from hm, decide_eq_true (show prAt p0 p1 p2 p3 p4 p5 p6 p7 k > lev from hl)]; rfl
      · replace hmv : mayI mask pend masked lev (prAt p0 p1 p2 p3 p4 p5 p6 p7 v) v = true := hmv
        rw [hsub, Bool.and_eq_true] at hmv
        exact h v hv hmv.1
    · rw [if_neg (fun h => hl h.2)]
      refine .inl ⟨rfl, fun v hv => ?_⟩
      show mayI mask pend masked lev _ v = false
      rw [hsub]
      cases hmv : mayI mask pend masked 0 (prAt p0 p1 p2 p3 p4 p5 p6 p7 v) v with
      | false => rfl
      | true =>
        have := h v hv hmv
        rw [Bool.true_and, decide_eq_false_iff_not]; omega

/-- with a handler of another, less priority below the best one, that one is still the best -/
theorem best_other {mask pend p0 p1 p2 p3 p4 p5 p6 p7 q0 q1 q2 q3 q4 q5 q6 q7 masked : Int} {v b : Nat} (hb : best8 mask pend p0 p1 p2 p3 p4 p5 p6 p7 0 masked 8 = b) (hvb : v ≠ b)
    (hq : ∀ u : Nat, u < 8 → u ≠ v → prAt q0 q1 q2 q3 q4 q5 q6 q7 u = prAt p0 p1 p2 p3 p4 p5 p6 p7 u) (hv : prAt q0 q1 q2 q3 q4 q5 q6 q7 v = prAt p0 p1 p2 p3 p4 p5 p6 p7 b - 1) :
    best8 mask pend q0 q1 q2 q3 q4 q5 q6 q7 0 masked 8 = b := by
  have h := bestG_is (fun v => mayI mask pend masked 0 (prAt p0 p1 p2 p3 p4 p5 p6 p7 v) v) (prAt p0 p1 p2 p3 p4 p5 p6 p7) 8
  rw [← best8_is, hb] at h
  refine best_iff ?_
  rcases h with ⟨e, h⟩ | ⟨k, hk, e, hm, h⟩
  · omega
  · obtain rfl : b = k := by omega
    refine .inr ⟨b, hk, rfl, ?_, fun u hu hmu => ?_⟩
    · show mayI mask pend masked 0 (prAt q0 q1 q2 q3 q4 q5 q6 q7 b) b = true
      rw [hq b hk (fun e => hvb e.symm)]; exact hm
    · rw [hq b hk (fun e => hvb e.symm)]
      by_cases huv : u = v
      · subst huv; left; rw [hv]; omega
      · have hmu : mayI mask pend masked 0 (prAt q0 q1 q2 q3 q4 q5 q6 q7 u) u = true := hmu
        rw [hq u hu huv] at hmu ⊢
        exact h u hu hmu

/-! ### Bits -/

theorem bitI_bv {x : BitVec 8} (v : Nat) : bitI (IntKind.u8.wrap (x.toNat : Int)) v = x.getLsbD v := by
  have hw : IntKind.u8.wrap (x.toNat : Int) = x.toNat := by
    have := x.isLt
    simp only [IntKind.wrap, IntKind.bits, IntKind.signed]
    simp; omega
  rw [hw, bitI, BitVec.getLsbD, Nat.testBit_eq_decide_div_mod_eq]
  have : ((x.toNat : Int) / 2 ^ v % 2 = 1) ↔ (x.toNat / 2 ^ v % 2 = 1) := by
    rw [show (2 : Int) ^ v = ((2 ^ v : Nat) : Int) by simp]
    omega
  simp only [this]

theorem bitI_in {n : Int} (h0 : 0 ≤ n) (h1 : n ≤ 255) (v : Nat) : bitI n v = (BitVec.ofInt 8 n).getLsbD v := by
  rw [← bitI_bv]
  have : IntKind.u8.wrap ((BitVec.ofInt 8 n).toNat : Int) = n := by
    rw [BitVec.toNat_ofInt]
    simp only [IntKind.wrap, IntKind.bits, IntKind.signed]
    simp; omega
  rw [this]

/-- masked is as not allowed -/
theorem best_masked {mask pend p0 p1 p2 p3 p4 p5 p6 p7 lev masked : Int} (hm : 0 ≤ mask ∧ mask ≤ 255) (hk : 0 ≤ masked ∧ masked ≤ 255) :
    best8 (IntKind.u8.wrap ((BitVec.ofInt 8 mask &&& ~~~ BitVec.ofInt 8 masked : BitVec 8).toNat : Int)) pend p0 p1 p2 p3 p4 p5 p6 p7 lev 0 8 = best8 mask pend p0 p1 p2 p3 p4 p5 p6 p7 lev masked 8 := by
  refine best_iff ?_
  have h := bestG_is (fun v => mayI mask pend masked lev (prAt p0 p1 p2 p3 p4 p5 p6 p7 v) v) (prAt p0 p1 p2 p3 p4 p5 p6 p7) 8
  rw [← best8_is] at h
  refine h.congr fun v hv => ?_
  show mayI _ _ _ _ _ _ = mayI _ _ _ _ _ _
  unfold mayI
  rw [bitI_bv, bitI_in hm.1 hm.2, bitI_in hk.1 hk.2, bitI_in (by decide : (0 : Int) ≤ 0) (by decide), BitVec.getLsbD_and, BitVec.getLsbD_not]
  simp [hv, Bool.and_assoc]

/-- masked is as not requested -/
theorem best_pend {mask pend p0 p1 p2 p3 p4 p5 p6 p7 lev masked : Int} (hm : 0 ≤ mask ∧ mask ≤ 255) (hp : 0 ≤ pend ∧ pend ≤ 255) (hk : 0 ≤ masked ∧ masked ≤ 255) :
    best8 255 (IntKind.u8.wrap ((BitVec.ofInt 8 (IntKind.u8.wrap ((BitVec.ofInt 8 pend &&& BitVec.ofInt 8 mask : BitVec 8).toNat : Int)) &&& ~~~ BitVec.ofInt 8 masked : BitVec 8).toNat : Int)) p0 p1 p2 p3 p4 p5 p6 p7 lev 0 8 = best8 mask pend p0 p1 p2 p3 p4 p5 p6 p7 lev masked 8 := by
  refine best_iff ?_
  have h := bestG_is (fun v => mayI mask pend masked lev (prAt p0 p1 p2 p3 p4 p5 p6 p7 v) v) (prAt p0 p1 p2 p3 p4 p5 p6 p7) 8
  rw [← best8_is] at h
  refine h.congr fun v hv => ?_
  show mayI _ _ _ _ _ _ = mayI _ _ _ _ _ _
  unfold mayI
  have e1 : ∀ n : Int, (BitVec.ofInt 8 n).getLsbD v = bitI (IntKind.u8.wrap ((BitVec.ofInt 8 n).toNat : Int)) v := fun n => (bitI_bv v).symm
  have e2 : BitVec.ofInt 8 (IntKind.u8.wrap ((BitVec.ofInt 8 pend &&& BitVec.ofInt 8 mask : BitVec 8).toNat : Int)) = BitVec.ofInt 8 pend &&& BitVec.ofInt 8 mask := by
    have hw : ∀ x : BitVec 8, IntKind.u8.wrap (x.toNat : Int) = x.toNat := fun x => by
      have := x.isLt
      simp only [IntKind.wrap, IntKind.bits, IntKind.signed]
      simp; omega
    generalize (BitVec.ofInt 8 pend &&& BitVec.ofInt 8 mask) = x
    rw [hw]; simp
  have e3 : ∀ w, w < 8 → bitI 255 w = true := by decide
  rw [e2, bitI_bv, bitI_in hm.1 hm.2, bitI_in hp.1 hp.2, bitI_in hk.1 hk.2, bitI_in (by decide : (0 : Int) ≤ 0) (by decide), BitVec.getLsbD_and, BitVec.getLsbD_and, BitVec.getLsbD_not, e3 v hv]
  simp [hv, Bool.and_assoc]

theorem choose0 (mask pend p0 p1 p2 p3 p4 p5 p6 p7 lev masked : Int) : chooseF [mask, pend, p0, p1, p2, p3, p4, p5, p6, p7, lev, 0, masked] =
    [best8 mask pend p0 p1 p2 p3 p4 p5 p6 p7 lev masked 8, if 0 ≤ best8 mask pend p0 p1 p2 p3 p4 p5 p6 p7 lev masked 8 then 1 else 0] := by
  simp only [chooseF]
  rw [if_neg (by decide)]

theorem wrap_best (mask pend p0 p1 p2 p3 p4 p5 p6 p7 lev masked : Int) : IntKind.i64.wrap (best8 mask pend p0 p1 p2 p3 p4 p5 p6 p7 lev masked 8) = best8 mask pend p0 p1 p2 p3 p4 p5 p6 p7 lev masked 8 := by
  obtain ⟨h1, h2⟩ := best_range mask pend p0 p1 p2 p3 p4 p5 p6 p7 lev masked
  simp [IntKind.wrap, IntKind.bits, IntKind.signed]; omega
theorem is_best (b : Int) : (!((if 0 ≤ b then (1 : Int) else 0) == 0)) = decide (0 ≤ b) := by
  by_cases h : 0 ≤ b
  · rw [if_pos h, decide_eq_true h]; rfl
  · rw [if_neg h, decide_eq_false h]; rfl
end Go.Proofs.Ytgifnmiggloclaa.cb
