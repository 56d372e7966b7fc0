/-
  UartOrder: what is to be shown of the loop's ends, by a checker over their trees.
  No conditions.
-/
import Derived.Test.YtgifnmiggloclabUo
namespace Go.Proofs.Ytgifnmiggloclab.uo
open Go.RowKit Go.Ev
set_option linter.unusedVariables false
set_option linter.unusedSimpArgs false

def eqF : Fact → Fact → Bool
  | .tru i b, .tru j c => Nat.beq i j && (b == c)
  | .isn i m, .isn j n => Nat.beq i j && (m == n)
  | .non i m, .non j n => Nat.beq i j && (m == n)
  | _, _ => false
theorem eqF_eq : ∀ {a b : Fact}, eqF a b = true → a = b := by
  intro a b h
  cases a <;> cases b <;> simp only [eqF, Bool.and_eq_true, beq_iff_eq, Bool.false_eq_true] at h
  all_goals
    obtain ⟨h1, h2⟩ := h
    have := Nat.eq_of_beq_eq_true h1
    subst this; subst h2; rfl
def hasF (f : Fact) : List Fact → Bool
  | [] => false
  | g :: F => eqF f g || hasF f F
theorem hasF_ok {σ : Sig} {f : Fact} : ∀ {F : List Fact}, hasF f F = true → Holds σ F → f.holds σ
  | [], h, _ => by cases h
  | g :: F, h, hF => by
    simp only [hasF, Bool.or_eq_true] at h
    rcases h with h | h
    · rw [eqF_eq h]; exact hF.1
    · exact hasF_ok h hF.2
def allF (F : List Fact) : List Fact → Bool
  | [] => true
  | f :: r => hasF f F && allF F r
theorem allF_ok {σ : Sig} {F : List Fact} (hF : Holds σ F) : ∀ {r : List Fact}, allF F r = true → Holds σ r
  | [], _ => trivial
  | f :: r, h => by
    simp only [allF, Bool.and_eq_true] at h
    exact ⟨hasF_ok h.1 hF, allF_ok hF h.2⟩
def anyF (F : List Fact) : List (List Fact) → Bool
  | [] => false
  | r :: D => allF F r || anyF F D
theorem anyF_ok {σ : Sig} {F : List Fact} (hF : Holds σ F) : ∀ {D : List (List Fact)}, anyF F D = true → (∀ r, r ∈ D → ¬ Holds σ r) → False
  | [], h, _ => by cases h
  | r :: D, h, hD => by
    simp only [anyF, Bool.or_eq_true] at h
    rcases h with h | h
    · exact hD r (List.mem_cons_self ..) (allF_ok hF h)
    · exact anyF_ok hF h fun r hr => hD r (List.mem_cons_of_mem _ hr)

/-- rows of facts that cannot be: of any state; of one whose queue to be sent is not empty -/
def uoDs : List (List Fact) := [[.tru 26 false], [.tru 40 true], [.tru 60 true], [.tru 54 true], [.tru 42 true, .tru 3 true], [.tru 44 true, .tru 3 false], [.tru 47 true, .tru 3 true], [.tru 48 true, .tru 3 false], [.tru 62 true, .tru 3 true], [.tru 63 true, .tru 3 false], [.tru 65 true, .tru 3 true], [.tru 66 true, .tru 3 false]]
def uoDj : List (List Fact) := [[.tru 28 true], [.tru 56 true], [.non 20 0, .non 20 1, .non 20 2, .non 20 3], [.isn 20 0, .non 21 0], [.isn 20 1, .non 21 1], [.isn 20 2, .non 21 2], [.isn 20 3, .non 21 3], [.isn 20 1, .isn 21 0], [.isn 20 2, .isn 21 0], [.isn 20 2, .isn 21 1], [.isn 20 3, .isn 21 0], [.isn 20 3, .isn 21 1], [.isn 20 3, .isn 21 2]]

/-- What holds of a state of a shape: the count is the ticks'. -/
def uoJ (q : Nat) (σ : Sig) : Prop := uoN (uoO q) ≠ 0 → 0 ≤ σ.ival 20 ∧ σ.ival 20 ≤ 3 ∧ σ.ival 21 = σ.ival 20

def insZ (kd : Nat → Option IntKind) (l : Asg) : List (Option IntKind) → Nat → Bool
  | [], _ => true
  | none :: r, i => insZ kd l r (i + 1)
  | some k :: r, i => (match findAs l i with
    | some a => inK kd k a
    | none => k.wrap 0 == 0) && insZ kd l r (i + 1)
theorem insZ_get {kd : Nat → Option IntKind} {l : Asg} : ∀ {ins : List (Option IntKind)} {i : Nat}, insZ kd l ins i = true → ∀ (j : Nat) (k : IntKind), ins[j]? = some (some k) → (findAs l (i + j) = none ∧ k.wrap 0 = 0) ∨ ∃ a, findAs l (i + j) = some a ∧ inK kd k a = true
  | [], _, _, j, k, hj => by simp at hj
  | none :: r, i, h, 0, k, hj => by simp at hj
  | none :: r, i, h, j + 1, k, hj => by
    have := insZ_get (ins := r) (i := i + 1) h j k (by simpa using hj)
    rw [show i + (j + 1) = i + 1 + j by omega]; exact this
  | some k' :: r, i, h, 0, k, hj => by
    simp only [insZ, Bool.and_eq_true] at h
    simp only [List.getElem?_cons_zero, Option.some.injEq] at hj
    subst hj
    have h1 := h.1
    split at h1
    · rename_i a ha; exact .inr ⟨a, ha, h1⟩
    · rename_i ha; exact .inl ⟨ha, by simpa using h1⟩
  | some k' :: r, i, h, j + 1, k, hj => by
    simp only [insZ, Bool.and_eq_true] at h
    have := insZ_get (ins := r) (i := i + 1) h.2 j k (by simpa using hj)
    rw [show i + (j + 1) = i + 1 + j by omega]; exact this
theorem insOk_z {τ : Sig} {m : Nat} {ins : List (Option IntKind)} {G : List SDef} (hG : Eqs τ m G) (hi : InsOk τ m ins) {l : Asg} {q : Nat} {insq : List (Option IntKind)} (d : Nat) (h : insZ (kdF m ins G d) l insq 0 = true) : InsOk (asgS τ l) q insq := by
  intro i k _ hik
  have hik : insq[i]? = some (some k) := by
    cases hc : insq[i]? with
    | none => rw [hc] at hik; cases hik
    | some o => rw [hc] at hik; simp only [Option.getD_some] at hik; rw [hik]
  rcases insZ_get h i k hik with ⟨h1, h2⟩ | ⟨a, h1, h2⟩ <;> rw [Nat.zero_add] at h1
  · simp only [asgS, h1]; exact h2
  · obtain ⟨n, h3, h4⟩ := inK_spec (fun i k h => kdF_spec hG hi d i k h) h2
    have : (asgS τ l).ival i = n := by
      simp only [asgS, h1]
      cases a <;> simp only [inK, Bool.false_eq_true] at h2 <;> simp only [valS, h3, iOf]
    rw [this]; exact h4

def isI (j : Nat) : Option AVal → Bool
  | some (.symi _ i) => Nat.beq i j
  | _ => false
theorem isI_ok {τ : Sig} {l : Asg} {i j : Nat} (h : isI j (findAs l i) = true) : (asgS τ l).ival i = τ.ival j := by
  cases hf : findAs l i with
  | none => rw [hf] at h; cases h
  | some a =>
    rw [hf] at h
    cases a <;> simp only [isI, Bool.false_eq_true] at h
    have := Nat.eq_of_beq_eq_true h
    subst this
    simp [asgS, hf, valS, den, iOf]
def litI : Option AVal → Option Int
  | some (.int _ n) => some n
  | _ => none
theorem litI_ok {τ : Sig} {l : Asg} {i : Nat} {n : Int} (h : litI (findAs l i) = some n) : (asgS τ l).ival i = n := by
  cases hf : findAs l i with
  | none => rw [hf] at h; cases h
  | some a =>
    rw [hf] at h
    cases a <;> simp only [litI, Option.some.injEq, reduceCtorEq] at h
    subst h
    simp [asgS, hf, valS, den, iOf]
/-- the next state's count is its ticks' -/
def okJ (qf : Bool) (q : Nat) (l : Asg) : Bool :=
  Nat.beq (uoN (uoO q)) 0 || (qf && isI 20 (findAs l 20) && isI 21 (findAs l 21)) || (match litI (findAs l 20), litI (findAs l 21) with
    | some a, some b => a == b && (decide (0 ≤ a) && decide (a ≤ 3))
    | _, _ => false)
theorem okJ_ok {τ : Sig} {q0 q : Nat} {l : Asg} (hj : uoJ q0 τ) (h : okJ (!Nat.beq (uoN (uoO q0)) 0) q l = true) : uoJ q (asgS τ l) := by
  intro hq
  simp only [okJ, Bool.or_eq_true, Bool.and_eq_true] at h
  rcases h with (h | ⟨⟨h1, h2⟩, h3⟩) | h
  · exact absurd (Nat.eq_of_beq_eq_true h) hq
  · have h1 : Nat.beq (uoN (uoO q0)) 0 = false := by simpa using h1
    have := hj (fun h => by rw [h] at h1; cases h1)
    rw [isI_ok h2, isI_ok h3]; exact this
  · split at h
    · rename_i a b ha hb
      simp only [Bool.and_eq_true, beq_iff_eq, decide_eq_true_eq] at h
      rw [litI_ok ha, litI_ok hb]
      exact ⟨h.2.1, h.2.2, h.1.symm⟩
    · cases h

def in3 : AVal → Bool
  | .symi .u8 i => Nat.beq i 23 || (Nat.beq i 51 || Nat.beq i 52)
  | _ => false
def okC (l : Asg) : List (Nat × AVal) → Bool
  | [] => true
  | p :: r => (match findAs l p.1 with
    | some y => sameV p.2 y || (in3 p.2 && in3 y)
    | none => true) && okC l r
theorem in3_ok {τ : Sig} (h1 : τ.ival 51 = τ.ival 23) (h2 : τ.ival 52 = τ.ival 23) {a : AVal} (h : in3 a = true) : den τ a = .int .u8 (τ.ival 23) := by
  unfold in3 at h
  split at h
  · rename_i i
    simp only [Bool.or_eq_true] at h
    rcases h with h | h | h <;> (have := Nat.eq_of_beq_eq_true h; subst this; simp [den, h1, h2])
  · cases h
theorem okC_ok {τ : Sig} (h1 : τ.ival 51 = τ.ival 23) (h2 : τ.ival 52 = τ.ival 23) {l : Asg} : ∀ {r : List (Nat × AVal)}, okC l r = true → EqsL τ l r
  | [], _ => trivial
  | p :: r, h => by
    simp only [okC, Bool.and_eq_true] at h
    have ih := okC_ok h1 h2 (r := r) h.2
    unfold EqsL
    split
    · rename_i y hy
      split
      · exact ih
      · rename_i hs
        refine ⟨?_, ih⟩
        have h3 := h.1
        rw [hy] at h3
        simp only [hs, Bool.false_or, Bool.and_eq_true] at h3
        rw [in3_ok h1 h2 h3.1, in3_ok h1 h2 h3.2]
    · exact ih

def okL (qf : Bool) (F : List Fact) (p q : Nat) (l : Asg) : Bool :=
  Nat.blt p 10 && (Nat.blt q 10 && (hasF (.tru 24 true) F && (isI 45 (findAs (l ++ [(1, .symi .i64 1)]) 0) && (isI 1 (findAs (l ++ [(1, .symi .i64 1)]) 1) && (insZ (kdF 24 (uoK ++ [some .u8, some .u8]) uoG 12) (l ++ [(1, .symi .i64 1)]) uoK 0 && okJ qf q (l ++ [(1, .symi .i64 1)]))))))
def chkV (qf : Bool) : Uv → List Fact → Bool
  | .dead, F => anyF F uoDs || (qf && anyF F uoDj)
  | .node i y n, F => chkV qf y (.tru i true :: F) && chkV qf n (.tru i false :: F)
  | .pick i k y n, F => chkV qf y (.isn i k :: F) && chkV qf n (.non i k :: F)
  | .e p q bm t c ctl lost ins outs, F => okL qf F p q (uoA (uoO p) (uoO q) t c ctl lost ins outs ctl outs)
  | .d p q bm t c ctl lost ins outs ctl2 outs2, F => okL qf F p q (uoA (uoO p) (uoO q) t c ctl lost ins outs ctl2 outs2) && okC (uoA (uoO p) (uoO q) t c ctl lost ins outs ctl2 outs2) (uoA (uoO p) (uoO q) t c ctl lost ins outs ctl2 outs2)
  | .f, F => true
def chkW (qf : Bool) : Uw → List Fact → Bool
  | .run v, F => chkV qf v F
  | .dead, F => anyF F uoDs || (qf && anyF F uoDj)
  | .node i y n, F => chkW qf y (.tru i true :: F) && chkW qf n (.tru i false :: F)
  | .pick i k y n, F => chkW qf y (.isn i k :: F) && chkW qf n (.non i k :: F)

/-- What is taken of the unknowns in a round. -/
structure Rnd (τ : Sig) (q : Nat) : Prop where
  e : Eqs τ 24 uoG
  hin : InsOk τ 24 (uoK ++ [some .u8, some .u8])
  h0 : 0 ≤ τ.ival 0
  h01 : τ.ival 0 ≤ τ.ival 1
  hlen : τ.ival 1 ≤ 9223372036854775807
  j : uoJ q τ

theorem and1 : ∀ n : Fin 256, (n.val &&& 1 = 0 ∨ n.val &&& 1 = 1) ∧ (n.val &&& 2 = 0 ∨ n.val &&& 2 = 2) := by decide +kernel
theorem u8_in {τ : Sig} {q : Nat} (a : Rnd τ q) {i : Nat} (hi : i < 24) (hk : ((uoK ++ [some .u8, some .u8])[i]?).getD none = some .u8) : 0 ≤ τ.ival i ∧ τ.ival i < 256 := by
  have h := a.hin i .u8 hi hk
  rw [← h]
  simp only [IntKind.wrap, IntKind.bits, IntKind.signed, Bool.false_and, Bool.false_eq_true, if_false]
  omega
theorem conv23 {τ : Sig} {q : Nat} (a : Rnd τ q) : τ.ival 49 = τ.ival 23 ∧ τ.ival 51 = τ.ival 23 ∧ τ.ival 52 = τ.ival 23 ∧ τ.ival 53 = τ.ival 23 := by
  have h := u8_in a (i := 23) (by decide) rfl
  have e49 : τ.ival 49 = IntKind.i32.wrap (τ.ival 23) := eqI (a.e.at 25 _ rfl rfl) rfl
  have e50 : τ.ival 50 = IntKind.i32.wrap (τ.ival 49 - 256) := eqI (a.e.at 26 _ rfl rfl) rfl
  have e51 : τ.ival 51 = IntKind.u8.wrap (τ.ival 50) := eqI (a.e.at 27 _ rfl rfl) rfl
  have e52 : τ.ival 52 = IntKind.u8.wrap (τ.ival 49) := eqI (a.e.at 28 _ rfl rfl) rfl
  have e53 : τ.ival 53 = IntKind.i32.wrap (τ.ival 52) := eqI (a.e.at 29 _ rfl rfl) rfl
  simp [IntKind.wrap, IntKind.bits, IntKind.signed] at e49 e50 e51 e52 e53
  omega
theorem dead_base {τ : Sig} {q : Nat} (a : Rnd τ q) : ∀ r, r ∈ uoDs → ¬ Holds τ r := by
  have h2 := u8_in a (i := 2) (by decide) rfl
  have e26 : τ.bval 26 = decide (0 ≤ τ.ival 0) := eqB (a.e.at 2 _ rfl rfl) rfl
  have hx : ∀ m : Nat, (BitVec.ofInt 8 (τ.ival 2) &&& BitVec.ofInt 8 (m : Nat)).toNat = (τ.ival 2).toNat &&& (m % 256) := by
    intro m
    rw [BitVec.toNat_and]
    congr 1
    · rw [BitVec.toNat_ofInt]; congr 1; omega
  have hb := and1 ⟨(τ.ival 2).toNat, by omega⟩
  have e37 : τ.ival 37 = IntKind.u8.wrap ((BitVec.ofInt 8 (τ.ival 2) &&& BitVec.ofInt 8 (1 : Nat)).toNat) := eqI (a.e.at 13 _ rfl rfl) rfl
  have e57 : τ.ival 57 = IntKind.u8.wrap ((BitVec.ofInt 8 (τ.ival 2) &&& BitVec.ofInt 8 (2 : Nat)).toNat) := eqI (a.e.at 33 _ rfl rfl) rfl
  have e38 : τ.bval 38 = (τ.ival 37 != 0) := eqB (a.e.at 14 _ rfl rfl) rfl
  have e39 : τ.bval 39 = (τ.ival 37 == 1) := eqB (a.e.at 15 _ rfl rfl) rfl
  have e40 : τ.bval 40 = !(τ.bval 38 == τ.bval 39) := eqB (a.e.at 16 _ rfl rfl) rfl
  have e58 : τ.bval 58 = (τ.ival 57 != 0) := eqB (a.e.at 34 _ rfl rfl) rfl
  have e59 : τ.bval 59 = (τ.ival 57 == 2) := eqB (a.e.at 35 _ rfl rfl) rfl
  have e60 : τ.bval 60 = !(τ.bval 58 == τ.bval 59) := eqB (a.e.at 36 _ rfl rfl) rfl
  have e54 : τ.bval 54 = (τ.ival 53 != τ.ival 49) := eqB (a.e.at 30 _ rfl rfl) rfl
  have e41 : τ.ival 41 = bif τ.bval 3 then 5 else 1 := eqIteI (a.e.at 17 _ rfl rfl) rfl rfl rfl
  have e46 : τ.ival 46 = bif τ.bval 3 then 4 else 0 := eqIteI (a.e.at 22 _ rfl rfl) rfl rfl rfl
  have e61 : τ.ival 61 = bif τ.bval 3 then 6 else 2 := eqIteI (a.e.at 37 _ rfl rfl) rfl rfl rfl
  have e64 : τ.ival 64 = bif τ.bval 3 then 7 else 3 := eqIteI (a.e.at 40 _ rfl rfl) rfl rfl rfl
  have e42 : τ.bval 42 = (τ.ival 41 != 5) := eqB (a.e.at 18 _ rfl rfl) rfl
  have e44 : τ.bval 44 = (τ.ival 41 != 1) := eqB (a.e.at 20 _ rfl rfl) rfl
  have e47 : τ.bval 47 = (τ.ival 46 != 4) := eqB (a.e.at 23 _ rfl rfl) rfl
  have e48 : τ.bval 48 = (τ.ival 46 != 0) := eqB (a.e.at 24 _ rfl rfl) rfl
  have e62 : τ.bval 62 = (τ.ival 61 != 6) := eqB (a.e.at 38 _ rfl rfl) rfl
  have e63 : τ.bval 63 = (τ.ival 61 != 2) := eqB (a.e.at 39 _ rfl rfl) rfl
  have e65 : τ.bval 65 = (τ.ival 64 != 7) := eqB (a.e.at 41 _ rfl rfl) rfl
  have e66 : τ.bval 66 = (τ.ival 64 != 3) := eqB (a.e.at 42 _ rfl rfl) rfl
  obtain ⟨c49, _, _, c53⟩ := conv23 a
  have d37 : τ.ival 37 = 0 ∨ τ.ival 37 = 1 := by
    rw [e37, hx]
    rcases hb.1 with h | h <;> simp only [Nat.reduceMod] at h ⊢ <;> rw [h]
    · exact .inl (by decide)
    · exact .inr (by decide)
  have d57 : τ.ival 57 = 0 ∨ τ.ival 57 = 2 := by
    rw [e57, hx]
    rcases hb.2 with h | h <;> simp only [Nat.reduceMod] at h ⊢ <;> rw [h]
    · exact .inl (by decide)
    · exact .inr (by decide)
  intro r hr
  simp only [uoDs, List.mem_cons, List.not_mem_nil, or_false] at hr
  rcases hr with rfl | rfl | rfl | rfl | rfl | rfl | rfl | rfl | rfl | rfl | rfl | rfl <;> simp only [Holds, Fact.holds, and_true]
  · rw [e26, decide_eq_false_iff_not]; exact fun h => h a.h0
  · rw [e40, e38, e39]; rcases d37 with h | h <;> rw [h] <;> decide
  · rw [e60, e58, e59]; rcases d57 with h | h <;> rw [h] <;> decide
  · rw [e54, c49, c53]; simp
  all_goals
    rintro ⟨h1, h2⟩
  · rw [e42, e41, h2] at h1; simp at h1
  · rw [e44, e41, h2] at h1; simp at h1
  · rw [e47, e46, h2] at h1; simp at h1
  · rw [e48, e46, h2] at h1; simp at h1
  · rw [e62, e61, h2] at h1; simp at h1
  · rw [e63, e61, h2] at h1; simp at h1
  · rw [e65, e64, h2] at h1; simp at h1
  · rw [e66, e64, h2] at h1; simp at h1
theorem dead_j {τ : Sig} {q : Nat} (a : Rnd τ q) (hq : uoN (uoO q) ≠ 0) : ∀ r, r ∈ uoDj → ¬ Holds τ r := by
  obtain ⟨j0, j3, j1⟩ := a.j hq
  have e28 : τ.bval 28 = decide (τ.ival 21 ≥ 4) := eqB (a.e.at 4 _ rfl rfl) rfl
  have e55 : τ.ival 55 = IntKind.i64.wrap (τ.ival 21) := eqI (a.e.at 31 _ rfl rfl) rfl
  have e56 : τ.bval 56 = (τ.ival 55 != τ.ival 20) := eqB (a.e.at 32 _ rfl rfl) rfl
  have h55 : τ.ival 55 = τ.ival 20 := by
    rw [e55, j1]; simp [IntKind.wrap, IntKind.bits, IntKind.signed]; omega
  intro r hr
  simp only [uoDj, List.mem_cons, List.not_mem_nil, or_false] at hr
  rcases hr with rfl | rfl | rfl | rfl | rfl | rfl | rfl | rfl | rfl | rfl | rfl | rfl | rfl <;> simp only [Holds, Fact.holds, and_true]
  · rw [e28, decide_eq_true_eq]; omega
  · rw [e56, h55]; simp
  all_goals omega

/-- What a round comes to. -/
def uoQ0 (τ : Sig) (x : SEx) (s : Shape) (σ2 : Sig) : Prop :=
  (x = .normal ∧ (∃ j : Fin 10 × Fin 10, s = uoS (uoO j.1.val) (uoO j.2.val) ∧ uoJ j.2.val σ2) ∧ τ.ival 0 < τ.ival 1 ∧ σ2.ival 0 = τ.ival 0 + 1 ∧ σ2.ival 1 = τ.ival 1 ∧ InsOk σ2 22 uoK ∧ σ2.tab = τ.tab ∧ σ2.ext = τ.ext) ∨ (x = .exit 0 ∧ s = uoS2 ∧ InsOk σ2 0 [] ∧ True ∧ σ2.tab = τ.tab)

theorem okL_ok {τ : Sig} {q0 p q : Nat} {F : List Fact} {l : Asg} (a : Rnd τ q0) (h : okL (!Nat.beq (uoN (uoO q0)) 0) F p q l = true) (hF : Holds τ F) : uoQ0 τ .normal (uoS (uoO p) (uoO q)) (asgS τ (l ++ [(1, .symi .i64 1)])) := by
  simp only [okL, Bool.and_eq_true] at h
  obtain ⟨hp, hq, h24, h45, h1, hz, hj⟩ := h
  have hp := Nat.le_of_ble_eq_true hp
  have hq := Nat.le_of_ble_eq_true hq
  have e24 : τ.bval 24 = decide (τ.ival 0 < τ.ival 1) := eqB (a.e.at 0 _ rfl rfl) rfl
  have e45 : τ.ival 45 = IntKind.i64.wrap (τ.ival 0 + 1) := eqI (a.e.at 21 _ rfl rfl) rfl
  have t24 : τ.bval 24 = true := hasF_ok h24 hF
  rw [e24, decide_eq_true_eq] at t24
  have h0 := a.h0
  have hl := a.hlen
  refine .inl ⟨rfl, ⟨(⟨p, hp⟩, ⟨q, hq⟩), rfl, okJ_ok a.j hj⟩, t24, ?_, isI_ok h1, insOk_z a.e a.hin 12 hz, rfl, rfl⟩
  rw [isI_ok h45, e45]
  simp [IntKind.wrap, IntKind.bits, IntKind.signed]; omega
theorem deads_ok {τ : Sig} {q0 : Nat} {F : List Fact} (a : Rnd τ q0) (h : (anyF F uoDs || ((!Nat.beq (uoN (uoO q0)) 0) && anyF F uoDj)) = true) : ¬ Holds τ F := by
  intro hF
  simp only [Bool.or_eq_true, Bool.and_eq_true] at h
  rcases h with h | ⟨h1, h2⟩
  · exact anyF_ok hF h (dead_base a)
  · refine anyF_ok hF h2 (dead_j a (fun h => ?_))
    rw [h] at h1; cases h1
theorem chkV_ok {τ : Sig} {q0 : Nat} (a : Rnd τ q0) : ∀ {v : Uv} {F : List Fact}, chkV (!Nat.beq (uoN (uoO q0)) 0) v F = true → segs τ (uoQ0 τ) v.sv F
  | .dead, F, h => deads_ok a h
  | .node i y n, F, h => by
    simp only [chkV, Bool.and_eq_true] at h
    exact ⟨chkV_ok a h.1, chkV_ok a h.2⟩
  | .pick i k y n, F, h => by
    simp only [chkV, Bool.and_eq_true] at h
    exact ⟨chkV_ok a h.1, chkV_ok a h.2⟩
  | .e p q bm t c ctl lost ins outs, F, h => fun hF => okL_ok a h hF
  | .d p q bm t c ctl lost ins outs ctl2 outs2, F, h => fun hF => by
    simp only [chkV, Bool.and_eq_true] at h
    obtain ⟨_, h51, h52, _⟩ := conv23 a
    exact ⟨okC_ok h51 h52 h.2, okL_ok a h.1 hF⟩
  | .f, F, h => fun hF => .inr ⟨rfl, rfl, fun i k hi _ => absurd hi (by omega), trivial, rfl⟩
theorem chkW_ok {τ : Sig} {q0 : Nat} (a : Rnd τ q0) : ∀ {w : Uw} {F : List Fact}, chkW (!Nat.beq (uoN (uoO q0)) 0) w F = true → segsW τ (uoQ0 τ) w.sw F
  | .run v, F, h => chkV_ok a h
  | .dead, F, h => deads_ok a h
  | .node i y n, F, h => by
    simp only [chkW, Bool.and_eq_true] at h
    exact ⟨chkW_ok a h.1, chkW_ok a h.2⟩
  | .pick i k y n, F, h => by
    simp only [chkW, Bool.and_eq_true] at h
    exact ⟨chkW_ok a h.1, chkW_ok a h.2⟩
theorem segs_weak {σ : Sig} {Q Q' : SEx → Shape → Sig → Prop} (h : ∀ x s σ2, Q x s σ2 → Q' x s σ2) : ∀ {v : Sv} {F : List Fact}, segs σ Q v F → segs σ Q' v F
  | .leaf .., F, hv => fun hF => h _ _ _ (hv hF)
  | .leafE .., F, hv => fun hF => ⟨(hv hF).1, h _ _ _ (hv hF).2⟩
  | .req .., F, hv => ⟨hv.1, segs_weak h hv.2⟩
  | .dead, F, hv => hv
  | .node .., F, hv => ⟨segs_weak h hv.1, segs_weak h hv.2⟩
  | .pick .., F, hv => ⟨segs_weak h hv.1, segs_weak h hv.2⟩
theorem segsW_weak {σ : Sig} {Q Q' : SEx → Shape → Sig → Prop} (h : ∀ x s σ2, Q x s σ2 → Q' x s σ2) : ∀ {w : Sw} {F : List Fact}, segsW σ Q w F → segsW σ Q' w F
  | .run v, F, hv => segs_weak h hv
  | .dead, F, hv => hv
  | .node .., F, hv => ⟨segsW_weak h hv.1, segsW_weak h hv.2⟩
  | .pick .., F, hv => ⟨segsW_weak h hv.1, segsW_weak h hv.2⟩
/-- what a run of one end assigns -/
def asgOf : Sw → Asg
  | .run (.leaf _ _ _ l ex) => l ++ ex
  | _ => []
end Go.Proofs.Ytgifnmiggloclab.uo
