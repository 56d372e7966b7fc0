/-
  What a timer's ticks come to: plain functions and their laws.
  No conditions.
-/
import Derived.Test.YtgifnmiggloclabChecked
import Derived.Test.YtgifnmiggloclabEwY
namespace Go.Proofs.Ytgifnmiggloclab.tp
open Go
set_option linter.unusedVariables false
set_option linter.unusedSimpArgs false
set_option linter.unnecessarySimpa false

def low1 (t : Int) : Int := IntKind.u16.wrap (BitVec.ofInt 16 t &&& BitVec.ofInt 16 1).toNat
def low2 (t : Int) : Int := IntKind.u16.wrap (BitVec.ofInt 16 t &&& BitVec.ofInt 16 2).toNat
def drop1 (t : Int) : Int := IntKind.u16.wrap (BitVec.ofInt 16 t &&& ~~~BitVec.ofInt 16 1).toNat
def first (c p : Int) : Int := IntKind.i64.wrap (IntKind.i64.wrap (IntKind.u16.wrap (IntKind.u16.wrap (p - c) - 1)) + 1)
def over (c p n : Int) : Int := IntKind.i64.wrap (n - first c p)
def per (p : Int) : Int := if p = 0 then 65536 else IntKind.i64.wrap p
def tkC (c p t n : Int) : Int :=
  if n ≤ 0 then c else if low1 t = 0 then c else if n < first c p then IntKind.u16.wrap (c + IntKind.u16.wrap n) else if low2 t = 0 then 0 else IntKind.u16.wrap ((over c p n).tmod (per p))
def tkT (c p t n : Int) : Int := if n ≤ 0 then t else if low1 t = 0 then t else if n < first c p then t else if low2 t = 0 then drop1 t else t
def tkK (c p t n : Int) : Int :=
  if n ≤ 0 then 0 else if low1 t = 0 then 0 else if n < first c p then 0 else if low2 t = 0 then 1 else IntKind.i64.wrap (1 + IntKind.i64.wrap ((over c p n).tdiv (per p)))
def nxt (c p t : Int) : Int := if low1 t = 0 then 0 else first c p

theorem first_nice (c p : Int) : first c p = (p - c - 1) % 65536 + 1 := by
  simp [first, IntKind.wrap, IntKind.bits, IntKind.signed]
  omega

def q (p : Int) : Int := if p = 0 then 65536 else p

theorem q_pos {p : Int} (hp0 : 0 ≤ p) (hp1 : p ≤ 65535) : 1 ≤ q p ∧ q p ≤ 65536 := by
  unfold q; split <;> omega

theorem per_nice {p : Int} (hp0 : 0 ≤ p) (hp1 : p ≤ 65535) : per p = q p := by
  unfold per q
  split
  · rfl
  · simp [IntKind.wrap, IntKind.bits, IntKind.signed]; omega

theorem over_nice {c p n : Int} (hc0 : 0 ≤ c) (hc1 : c ≤ 65535) (hp0 : 0 ≤ p) (hp1 : p ≤ 65535) (hn0 : 0 ≤ n) (hn1 : n ≤ 9223372036854775807) : over c p n = n - ((p - c - 1) % 65536 + 1) := by
  unfold over
  rw [first_nice c p]
  simp [IntKind.wrap, IntKind.bits, IntKind.signed]; omega

theorem emod_le (a q : Int) (hq : 1 ≤ q) : 0 ≤ a % q ∧ a % q < q := ⟨Int.emod_nonneg _ (by omega), Int.emod_lt_of_pos _ (by omega)⟩

theorem wrap16_of {a : Int} (h0 : 0 ≤ a) (h1 : a ≤ 65535) : IntKind.u16.wrap a = a := by
  simp [IntKind.wrap, IntKind.bits, IntKind.signed]; omega

theorem wrap64_of {a : Int} (h0 : 0 ≤ a) (h1 : a ≤ 9223372036854775807) : IntKind.i64.wrap a = a := by
  simp [IntKind.wrap, IntKind.bits, IntKind.signed]; omega

theorem off_C {c p t n : Int} (h : low1 t = 0) : tkC c p t n = c := by
  unfold tkC
  rw [if_pos h]; split <;> rfl

theorem off_T {c p t n : Int} (h : low1 t = 0) : tkT c p t n = t := by
  unfold tkT
  rw [if_pos h]; split <;> rfl

theorem off_K {c p t n : Int} (h : low1 t = 0) : tkK c p t n = 0 := by
  unfold tkK
  rw [if_pos h]; split <;> rfl

theorem low1_nice {t : Int} : low1 t = t % 2 := by
  have h : (BitVec.ofInt 16 t &&& BitVec.ofInt 16 1).toNat = (t % 2).toNat := by
    rw [BitVec.toNat_and]
    have h1 : (BitVec.ofInt 16 1).toNat = 2 ^ 1 - 1 := by decide
    rw [h1, Nat.and_two_pow_sub_one_eq_mod, BitVec.toNat_ofInt]
    omega
  unfold low1
  rw [h]
  simp [IntKind.wrap, IntKind.bits, IntKind.signed]
  omega

theorem drop1_nice {t : Int} (h0 : 0 ≤ t) (h1 : t ≤ 65535) : drop1 t = t - t % 2 := by
  have h : (BitVec.ofInt 16 t &&& ~~~BitVec.ofInt 16 1).toNat = (t - t % 2).toNat := by
    have e : (~~~BitVec.ofInt 16 1 : BitVec 16) = BitVec.ofNat 16 65534 := by decide
    rw [e, BitVec.toNat_and, BitVec.toNat_ofInt]
    have e2 : (BitVec.ofNat 16 65534).toNat = 2 * (2 ^ 15 - 1) := by decide
    rw [e2]
    have e3 : (t % ((2 ^ 16 : Nat) : Int)).toNat = 2 * (t / 2).toNat + (t % 2).toNat := by omega
    rw [e3]
    have e4 : (t % 2).toNat < 2 := by omega
    generalize (t % 2).toNat = b at *
    have e5 : (2 * (t / 2).toNat + b) &&& (2 * (2 ^ 15 - 1)) = 2 * ((t / 2).toNat &&& (2 ^ 15 - 1)) := by
      apply Nat.eq_of_testBit_eq
      intro i
      cases i with
      | zero => simp [Nat.testBit_zero]
      | succ i =>
        rw [Nat.testBit_and, Nat.testBit_succ, Nat.testBit_succ, Nat.testBit_succ]
        rw [show (2 * (t / 2).toNat + b) / 2 = (t / 2).toNat by omega, show 2 * (2 ^ 15 - 1) / 2 = 2 ^ 15 - 1 by omega, show 2 * ((t / 2).toNat &&& (2 ^ 15 - 1)) / 2 = ((t / 2).toNat &&& (2 ^ 15 - 1)) by omega, Nat.testBit_and]
    rw [e5, Nat.and_two_pow_sub_one_eq_mod]
    omega
  unfold drop1
  rw [h]
  simp [IntKind.wrap, IntKind.bits, IntKind.signed]
  omega

theorem low2_nice {t : Int} : low2 t = 2 * (t / 2 % 2) := by
  have h : (BitVec.ofInt 16 t &&& BitVec.ofInt 16 2).toNat = (2 * (t / 2 % 2)).toNat := by
    rw [BitVec.toNat_and, BitVec.toNat_ofInt]
    have e2 : (BitVec.ofInt 16 2).toNat = 2 * (2 ^ 1 - 1) := by decide
    rw [e2]
    have e3 : (t % ((2 ^ 16 : Nat) : Int)).toNat = 2 * (t % 65536 / 2).toNat + (t % 2).toNat := by omega
    rw [e3]
    have e4 : (t % 2).toNat < 2 := by omega
    generalize (t % 2).toNat = b at *
    have e5 : (2 * (t % 65536 / 2).toNat + b) &&& (2 * (2 ^ 1 - 1)) = 2 * ((t % 65536 / 2).toNat &&& (2 ^ 1 - 1)) := by
      apply Nat.eq_of_testBit_eq
      intro i
      cases i with
      | zero => simp [Nat.testBit_zero]
      | succ i =>
        rw [Nat.testBit_and, Nat.testBit_succ, Nat.testBit_succ, Nat.testBit_succ]
        rw [show (2 * (t % 65536 / 2).toNat + b) / 2 = (t % 65536 / 2).toNat by omega, show 2 * (2 ^ 1 - 1) / 2 = 2 ^ 1 - 1 by omega, show 2 * ((t % 65536 / 2).toNat &&& (2 ^ 1 - 1)) / 2 = ((t % 65536 / 2).toNat &&& (2 ^ 1 - 1)) by omega, Nat.testBit_and]
    rw [e5, Nat.and_two_pow_sub_one_eq_mod]
    omega
  unfold low2
  rw [h]
  simp [IntKind.wrap, IntKind.bits, IntKind.signed]
  omega

def F (c p : Int) : Int := (p - c - 1) % 65536 + 1

theorem F_pos (c p : Int) : 1 ≤ F c p ∧ F c p ≤ 65536 := by unfold F; omega

/-- The three ways of a timer. -/
theorem tk_all {c p t n : Int} (hc0 : 0 ≤ c) (hc1 : c ≤ 65535) (hp0 : 0 ≤ p) (hp1 : p ≤ 65535) (hn0 : 0 ≤ n) (hn1 : n ≤ 9223372036854775807) :
    (low1 t = 0 → tkC c p t n = c ∧ tkT c p t n = t ∧ tkK c p t n = 0) ∧
    (low1 t ≠ 0 → low2 t = 0 → tkC c p t n = (if n < F c p then (c + n) % 65536 else 0) ∧ tkT c p t n = (if n < F c p then t else drop1 t) ∧ tkK c p t n = if n < F c p then 0 else 1) ∧
    (low1 t ≠ 0 → low2 t ≠ 0 → tkC c p t n = (if n < F c p then (c + n) % 65536 else (n - F c p) % q p) ∧ tkT c p t n = t ∧ tkK c p t n = if n < F c p then 0 else 1 + (n - F c p) / q p) := by
  obtain ⟨q0, q1⟩ := q_pos hp0 hp1
  obtain ⟨f0, f1⟩ := F_pos c p
  have hf : first c p = F c p := first_nice c p
  have ho : over c p n = n - F c p := over_nice hc0 hc1 hp0 hp1 hn0 hn1
  have hw : IntKind.u16.wrap (c + IntKind.u16.wrap n) = (c + n) % 65536 := by simp [IntKind.wrap, IntKind.bits, IntKind.signed]
  refine ⟨fun h => ⟨off_C h, off_T h, off_K h⟩, fun h1 h2 => ?_, fun h1 h2 => ?_⟩
  · unfold tkC tkT tkK
    rw [hf]
    simp only [if_neg h1, if_pos h2]
    by_cases hn : n ≤ 0
    · have : n = 0 := by omega
      subst this
      rw [if_pos (by omega), if_pos (by omega), if_pos (by omega), if_pos (by omega), if_pos (by omega), if_pos (by omega)]
      refine ⟨by omega, rfl, rfl⟩
    · simp only [if_neg hn, hw]
      and_intros <;> first | trivial | omega
  · unfold tkC tkT tkK
    rw [hf, ho, per_nice hp0 hp1]
    simp only [if_neg h1, if_neg h2]
    by_cases hn : n ≤ 0
    · have : n = 0 := by omega
      subst this
      rw [if_pos (by omega), if_pos (by omega), if_pos (by omega), if_pos (by omega), if_pos (by omega)]
      refine ⟨by omega, rfl, rfl⟩
    · simp only [if_neg hn, hw]
      by_cases hnf : n < F c p
      · simp only [if_pos hnf]
        and_intros <;> first | trivial | omega
      · simp only [if_neg hnf]
        rw [Int.tmod_eq_emod_of_nonneg (by omega), Int.tdiv_eq_ediv_of_nonneg (by omega)]
        obtain ⟨e0, e1⟩ := emod_le (n - F c p) (q p) q0
        have h0 : 0 ≤ (n - F c p) / q p := Int.ediv_nonneg (by omega) (by omega)
        have h3 : (n - F c p) / q p ≤ n - F c p := Int.ediv_le_self _ (by omega)
        refine ⟨wrap16_of e0 (by omega), by first | trivial | (split <;> rfl), ?_⟩
        rw [wrap64_of h0 (by omega), wrap64_of (by omega) (by omega)]

theorem tkC_range {c p t n : Int} (hc0 : 0 ≤ c) (hc1 : c ≤ 65535) (hp0 : 0 ≤ p) (hp1 : p ≤ 65535) (hn0 : 0 ≤ n) (hn1 : n ≤ 9223372036854775807) : 0 ≤ tkC c p t n ∧ tkC c p t n ≤ 65535 := by
  obtain ⟨a1, a2, a3⟩ := tk_all (t := t) hc0 hc1 hp0 hp1 hn0 hn1
  obtain ⟨q0, q1⟩ := q_pos hp0 hp1
  obtain ⟨e0, e1⟩ := emod_le (n - F c p) (q p) q0
  by_cases h1 : low1 t = 0
  · rw [(a1 h1).1]; omega
  · by_cases h2 : low2 t = 0
    · rw [(a2 h1 h2).1]; split <;> omega
    · rw [(a3 h1 h2).1]; split <;> omega

theorem tkK_range {c p t n : Int} (hc0 : 0 ≤ c) (hc1 : c ≤ 65535) (hp0 : 0 ≤ p) (hp1 : p ≤ 65535) (hn0 : 0 ≤ n) (hn1 : n ≤ 9223372036854775807) : 0 ≤ tkK c p t n ∧ tkK c p t n ≤ 1 + n := by
  obtain ⟨a1, a2, a3⟩ := tk_all (t := t) hc0 hc1 hp0 hp1 hn0 hn1
  obtain ⟨q0, q1⟩ := q_pos hp0 hp1
  obtain ⟨f0, f1⟩ := F_pos c p
  by_cases h1 : low1 t = 0
  · rw [(a1 h1).2.2]; omega
  · by_cases h2 : low2 t = 0
    · rw [(a2 h1 h2).2.2]; split <;> omega
    · rw [(a3 h1 h2).2.2]
      split
      · omega
      · have h0 : 0 ≤ (n - F c p) / q p := Int.ediv_nonneg (by omega) (by omega)
        have h3 : (n - F c p) / q p ≤ n - F c p := Int.ediv_le_self _ (by omega)
        omega

/-- Ticks, and more ticks, are as all at once, whatever the control. -/
theorem add_all {c p t n m : Int} (hc0 : 0 ≤ c) (hc1 : c ≤ 65535) (hp0 : 0 ≤ p) (hp1 : p ≤ 65535) (ht0 : 0 ≤ t) (ht1 : t ≤ 65535) (hn0 : 0 ≤ n) (hm0 : 0 ≤ m) (h1 : n + m ≤ 9223372036854775807) :
    tkC (tkC c p t n) p (tkT c p t n) m = tkC c p t (n + m) ∧ tkT (tkC c p t n) p (tkT c p t n) m = tkT c p t (n + m) ∧ tkK c p t n + tkK (tkC c p t n) p (tkT c p t n) m = tkK c p t (n + m) := by
  obtain ⟨r0, r1⟩ := tkC_range (t := t) hc0 hc1 hp0 hp1 hn0 (by omega : n ≤ 9223372036854775807)
  obtain ⟨a1, a2, a3⟩ := tk_all (t := t) hc0 hc1 hp0 hp1 hn0 (by omega : n ≤ 9223372036854775807)
  obtain ⟨b1, b2, b3⟩ := tk_all (t := t) hc0 hc1 hp0 hp1 (by omega : 0 ≤ n + m) h1
  obtain ⟨q0, q1⟩ := q_pos hp0 hp1
  obtain ⟨f0, f1⟩ := F_pos c p
  by_cases l1 : low1 t = 0
  · obtain ⟨x1, x2, x3⟩ := a1 l1
    obtain ⟨y1, y2, y3⟩ := b1 l1
    rw [x1, x2, x3, y1, y2, y3, off_C l1, off_T l1, off_K l1]
    exact ⟨rfl, rfl, rfl⟩
  · by_cases l2 : low2 t = 0
    · obtain ⟨x1, x2, x3⟩ := a2 l1 l2
      obtain ⟨y1, y2, y3⟩ := b2 l1 l2
      by_cases hnf : n < F c p
      · rw [if_pos hnf] at x1 x2 x3
        rw [x1] at r0 r1
        obtain ⟨_, z2, _⟩ := tk_all (t := t) r0 r1 hp0 hp1 hm0 (by omega)
        obtain ⟨w1, w2, w3⟩ := z2 l1 l2
        have hF : F ((c + n) % 65536) p = F c p - n := by unfold F at *; omega
        rw [hF] at w1 w2 w3
        rw [x1, x2, x3, y1, y2, y3, w1, w2, w3]
        by_cases hmf : m < F c p - n
        · rw [if_pos hmf, if_pos hmf, if_pos hmf, if_pos (by omega), if_pos (by omega), if_pos (by omega)]
          refine ⟨by omega, rfl, rfl⟩
        · rw [if_neg hmf, if_neg hmf, if_neg hmf, if_neg (by omega), if_neg (by omega), if_neg (by omega)]
          refine ⟨rfl, rfl, rfl⟩
      · rw [if_neg hnf] at x1 x2 x3
        have ld : low1 (drop1 t) = 0 := by rw [drop1_nice ht0 ht1, low1_nice]; omega
        rw [x1, x2, x3, y1, y2, y3, off_C ld, off_T ld, off_K ld, if_neg (by omega), if_neg (by omega), if_neg (by omega)]
        exact ⟨rfl, rfl, rfl⟩
    · obtain ⟨x1, x2, x3⟩ := a3 l1 l2
      obtain ⟨y1, y2, y3⟩ := b3 l1 l2
      rw [x1] at r0 r1
      by_cases hnf : n < F c p
      · rw [if_pos hnf] at x1 x3 r0 r1
        obtain ⟨_, _, z3⟩ := tk_all (t := t) r0 r1 hp0 hp1 hm0 (by omega)
        obtain ⟨w1, w2, w3⟩ := z3 l1 l2
        have hF : F ((c + n) % 65536) p = F c p - n := by unfold F at *; omega
        rw [hF] at w1 w3
        rw [x1, x2, x3, y1, y2, y3, w1, w2, w3]
        by_cases hmf : m < F c p - n
        · rw [if_pos hmf, if_pos hmf, if_pos (by omega), if_pos (by omega)]
          refine ⟨by omega, rfl, rfl⟩
        · rw [if_neg hmf, if_neg hmf, if_neg (by omega), if_neg (by omega)]
          rw [show m - (F c p - n) = n + m - F c p by omega]
          refine ⟨rfl, rfl, by omega⟩
      · rw [if_neg hnf] at x1 x3 r0 r1
        obtain ⟨e0, e1⟩ := emod_le (n - F c p) (q p) q0
        have hk := Int.emod_add_mul_ediv (n - F c p) (q p)
        obtain ⟨_, _, z3⟩ := tk_all (t := t) r0 r1 hp0 hp1 hm0 (by omega)
        obtain ⟨w1, w2, w3⟩ := z3 l1 l2
        have hF : F ((n - F c p) % q p) p = q p - (n - F c p) % q p := by
          generalize (n - F c p) % q p = r at *
          unfold q at e1 ⊢
          unfold F
          split at e1
          · rename_i h; rw [if_pos h]; omega
          · rename_i h; rw [if_neg h]; omega
        rw [hF] at w1 w3
        rw [x1, x2, x3, y1, y2, y3, w1, w2, w3]
        have hnm : ¬ n + m < F c p := by omega
        rw [if_neg hnm, if_neg hnm]
        generalize (n - F c p) % q p = r at *
        generalize (n - F c p) / q p = k at *
        by_cases hmf : m < q p - r
        · rw [if_pos hmf, if_pos hmf]
          have h2 : n + m - F c p = (r + m) + q p * k := by omega
          rw [h2, Int.add_mul_emod_self_left, Int.add_mul_ediv_left _ _ (by omega), Int.emod_eq_of_lt (a := r + m) (b := q p) (by omega) (by omega), Int.ediv_eq_zero_of_lt (by omega) (by omega)]
          refine ⟨by omega, rfl, by omega⟩
        · rw [if_neg hmf, if_neg hmf]
          have h2 : n + m - F c p = (m - (q p - r)) + q p * (k + 1) := by rw [Int.mul_add]; omega
          rw [h2, Int.add_mul_emod_self_left, Int.add_mul_ediv_left _ _ (by omega)]
          refine ⟨rfl, rfl, by omega⟩

/-- A tick asks just if it is the first time, or a period later. -/
theorem asks_iff {c p t i : Int} (hc0 : 0 ≤ c) (hc1 : c ≤ 65535) (hp0 : 0 ≤ p) (hp1 : p ≤ 65535) (ht0 : 0 ≤ t) (ht1 : t ≤ 65535) (hi0 : 1 ≤ i) (hi1 : i ≤ 1000000) :
    (tkK (tkC c p t (i - 1)) p (tkT c p t (i - 1)) 1 = 0 ∨ tkK (tkC c p t (i - 1)) p (tkT c p t (i - 1)) 1 = 1) ∧
    (0 < tkK (tkC c p t (i - 1)) p (tkT c p t (i - 1)) 1 ↔ low1 t ≠ 0 ∧ (i = F c p ∨ low2 t ≠ 0 ∧ F c p < i ∧ (i - F c p) % q p = 0)) := by
  obtain ⟨_, _, h3⟩ := add_all (n := i - 1) (m := 1) hc0 hc1 hp0 hp1 ht0 ht1 (by omega) (by omega) (by omega)
  rw [show i - 1 + 1 = i by omega] at h3
  obtain ⟨a1, a2, a3⟩ := tk_all (t := t) (n := i - 1) hc0 hc1 hp0 hp1 (by omega) (by omega)
  obtain ⟨b1, b2, b3⟩ := tk_all (t := t) (n := i) hc0 hc1 hp0 hp1 (by omega) (by omega)
  obtain ⟨q0, q1⟩ := q_pos hp0 hp1
  obtain ⟨f0, f1⟩ := F_pos c p
  by_cases l1 : low1 t = 0
  · rw [(a1 l1).2.2, (b1 l1).2.2] at h3
    refine ⟨.inl (by omega), ?_⟩
    constructor
    · intro h; omega
    · rintro ⟨h, _⟩; exact absurd l1 h
  · by_cases l2 : low2 t = 0
    · rw [(a2 l1 l2).2.2, (b2 l1 l2).2.2] at h3
      have : (tkK (tkC c p t (i - 1)) p (tkT c p t (i - 1)) 1 = 0 ∧ i ≠ F c p) ∨ (tkK (tkC c p t (i - 1)) p (tkT c p t (i - 1)) 1 = 1 ∧ i = F c p) := by
        split at h3 <;> split at h3 <;> omega
      refine ⟨by omega, ?_⟩
      constructor
      · intro h; exact ⟨l1, .inl (by omega)⟩
      · rintro ⟨_, h | ⟨h, _⟩⟩
        · omega
        · exact absurd l2 h
    · rw [(a3 l1 l2).2.2, (b3 l1 l2).2.2] at h3
      by_cases hif : i < F c p
      · rw [if_pos hif, if_pos (by omega)] at h3
        refine ⟨by omega, ?_⟩
        constructor
        · intro h; omega
        · rintro ⟨_, h | ⟨_, h, _⟩⟩ <;> omega
      · rw [if_neg hif] at h3
        by_cases hie : i = F c p
        · rw [if_pos (by omega), hie] at h3
          simp at h3
          rw [hie]
          refine ⟨.inr (by omega), ?_⟩
          constructor
          · intro _; exact ⟨l1, .inl rfl⟩
          · intro _; omega
        · rw [if_neg (by omega)] at h3
          have k1 := Int.emod_add_mul_ediv (i - F c p) (q p)
          have k2 := Int.emod_add_mul_ediv (i - 1 - F c p) (q p)
          obtain ⟨e0, e1⟩ := emod_le (i - F c p) (q p) q0
          obtain ⟨e2, e3⟩ := emod_le (i - 1 - F c p) (q p) q0
          have hd : (i - F c p) / q p = (i - 1 - F c p) / q p ∨ (i - F c p) / q p = (i - 1 - F c p) / q p + 1 ∧ (i - F c p) % q p = 0 := by
            generalize (i - F c p) % q p = r at *
            generalize (i - 1 - F c p) % q p = r' at *
            generalize (i - F c p) / q p = k at *
            generalize (i - 1 - F c p) / q p = k' at *
            have hr : r + q p * k = r' + q p * k' + 1 := by omega
            rcases Int.lt_trichotomy k k' with h | h | h
            · exfalso
              have : q p * k + q p ≤ q p * k' := by
                have : q p * (k + 1) ≤ q p * k' := Int.mul_le_mul_of_nonneg_left (by omega) (by omega)
                rw [Int.mul_add] at this; omega
              omega
            · exact .inl h
            · right
              rcases Int.lt_or_le (k' + 1) k with h9 | h9
              · exfalso
                have : q p * k' + q p + q p ≤ q p * k := by
                  have : q p * (k' + 1 + 1) ≤ q p * k := Int.mul_le_mul_of_nonneg_left (by omega) (by omega)
                  rw [Int.mul_add, Int.mul_add] at this; omega
                omega
              · have hk : k = k' + 1 := by omega
                subst hk
                rw [Int.mul_add] at hr
                exact ⟨rfl, by omega⟩
          have hz : (i - F c p) % q p = 0 → (i - F c p) / q p = (i - 1 - F c p) / q p + 1 := by
            intro hz
            rcases hd with h | h
            · exfalso
              rw [hz, h] at k1
              omega
            · exact h.1
          refine ⟨by omega, ?_⟩
          constructor
          · intro h
            refine ⟨l1, .inr ⟨l2, by omega, ?_⟩⟩
            rcases hd with h' | h'
            · omega
            · exact h'.2
          · rintro ⟨_, h | ⟨_, _, h⟩⟩
            · omega
            · have := hz h; omega

end Go.Proofs.Ytgifnmiggloclab.tp
