/-
  BankPlays is true: a walk over the row of acts; both banks are one at the loop's head (shared unknowns).
  No conditions.
-/
import Derived.Test.YtgifnmiggloclabRows
import Derived.WalkKit
import Derived.ProofKit
import Derived.OpenShut
import Derived.Below
import Derived.ChangeSame
import Derived.Test.YtgifnmiggloclabBl
namespace Go.Proofs.Ytgifnmiggloclab.bankPlays
open Go.ChangeShapes Go.WideShapes Go.ChangeAt Go.RowKit
open Go.Ev Go.Proofs.Ytgifnmiggloclab.bl
open Go.Proofs.Ytgifnmiggloclab.uc (peekF upFs)
open Go.Proofs.Ytgifnmiggloclab.ud (ureadF ureadG uread_ok ureadA)
set_option linter.unusedVariables false
set_option linter.unusedSimpArgs false

theorem own : ownKnob Try.prog.godebug = none := by kernel_rfl

theorem wrap_wrap (x : Int) : IntKind.i32.wrap (IntKind.i32.wrap x) = IntKind.i32.wrap x := by
  simp only [IntKind.wrap, IntKind.bits, IntKind.signed]
  simp
  repeat split
  all_goals omega
set_option maxRecDepth 100000 in
theorem read_peek (x0 x1 x2 x3 x4 x5 x6 x7 x8 x9 x10 x11 x12 x13 x14 x15 x16 x17 x19 x20 x21 : Int) (b : Bool) : IntKind.i32.wrap ((ureadF [x0, x1, x2, x3, x4, x5, x6, x7, x8, x9, x10, x11, x12, x13, x14, x15, x16, x17, (if b then 1 else 0), x19, x20, x21]).getD 0 0) = IntKind.i32.wrap ((peekF [x0, x1, x2, x3, x4, x5, x6, x7, x8, x9, x10, x11, x12, x13, x14, x15, x16, x17, (if b then 1 else 0), x19, x20, x21]).getD 0 0) := by
  have e := eqs_solve (σ := sigL (tabOf upFs) [x0, x1, x2, x3, x4, x5, x6, x7, x8, x9, x10, x11, x12, x13, x14, x15, x16, x17, (if b then 1 else 0), x19, x20, x21]) uread_ok
  have ag := agree_solve ureadG 22 (sigL (tabOf upFs) [x0, x1, x2, x3, x4, x5, x6, x7, x8, x9, x10, x11, x12, x13, x14, x15, x16, x17, (if b then 1 else 0), x19, x20, x21])
  show IntKind.i32.wrap ((solve ureadG 22 (sigL (tabOf upFs) [x0, x1, x2, x3, x4, x5, x6, x7, x8, x9, x10, x11, x12, x13, x14, x15, x16, x17, (if b then 1 else 0), x19, x20, x21])).ival 22) = _
  generalize solve ureadG 22 (sigL (tabOf upFs) [x0, x1, x2, x3, x4, x5, x6, x7, x8, x9, x10, x11, x12, x13, x14, x15, x16, x17, (if b then 1 else 0), x19, x20, x21]) = σ at e ag ⊢
  have e22 : σ.ival 22 = IntKind.i32.wrap (σ.tab 192 [σ.ival 0, σ.ival 1, σ.ival 2, σ.ival 3, σ.ival 4, σ.ival 5, σ.ival 6, σ.ival 7, σ.ival 8, σ.ival 9, σ.ival 10, σ.ival 11, σ.ival 12, σ.ival 13, σ.ival 14, σ.ival 15, σ.ival 16, σ.ival 17, (if σ.bval 18 then 1 else 0), σ.ival 19, σ.ival 20, σ.ival 21]) := eqI (e.at 0 _ rfl rfl) rfl
  have ht : σ.tab = tabOf upFs := ag.tab.symm
  have h0 : σ.ival 0 = x0 := (ag.val 0 (by decide)).1.symm
  have h1 : σ.ival 1 = x1 := (ag.val 1 (by decide)).1.symm
  have h2 : σ.ival 2 = x2 := (ag.val 2 (by decide)).1.symm
  have h3 : σ.ival 3 = x3 := (ag.val 3 (by decide)).1.symm
  have h4 : σ.ival 4 = x4 := (ag.val 4 (by decide)).1.symm
  have h5 : σ.ival 5 = x5 := (ag.val 5 (by decide)).1.symm
  have h6 : σ.ival 6 = x6 := (ag.val 6 (by decide)).1.symm
  have h7 : σ.ival 7 = x7 := (ag.val 7 (by decide)).1.symm
  have h8 : σ.ival 8 = x8 := (ag.val 8 (by decide)).1.symm
  have h9 : σ.ival 9 = x9 := (ag.val 9 (by decide)).1.symm
  have h10 : σ.ival 10 = x10 := (ag.val 10 (by decide)).1.symm
  have h11 : σ.ival 11 = x11 := (ag.val 11 (by decide)).1.symm
  have h12 : σ.ival 12 = x12 := (ag.val 12 (by decide)).1.symm
  have h13 : σ.ival 13 = x13 := (ag.val 13 (by decide)).1.symm
  have h14 : σ.ival 14 = x14 := (ag.val 14 (by decide)).1.symm
  have h15 : σ.ival 15 = x15 := (ag.val 15 (by decide)).1.symm
  have h16 : σ.ival 16 = x16 := (ag.val 16 (by decide)).1.symm
  have h17 : σ.ival 17 = x17 := (ag.val 17 (by decide)).1.symm
  have h19 : σ.ival 19 = x19 := (ag.val 19 (by decide)).1.symm
  have h20 : σ.ival 20 = x20 := (ag.val 20 (by decide)).1.symm
  have h21 : σ.ival 21 = x21 := (ag.val 21 (by decide)).1.symm
  have hb : σ.bval 18 = b := by
    rw [← (ag.val 18 (by decide)).2.1]
    show (!((if b then (1 : Int) else 0) == 0)) = b
    cases b <;> rfl
  rw [e22, ht, hb, h0, h1, h2, h3, h4, h5, h6, h7, h8, h9, h10, h11, h12, h13, h14, h15, h16, h17, h19, h20, h21, wrap_wrap]
  rfl

def AllP (P : Int × Sw → Prop) : List (Int × Sw) → Prop
  | [] => True
  | p :: l => P p ∧ AllP P l
theorem blP_ob {σ : Sig} {Q : SEx → Shape → Sig → Prop} : ∀ (l : List (Int × Sw)) (r : Sw) (F : List Fact), AllP (fun p => ∀ F', (Holds σ F' → Holds σ F) → segsW σ Q p.2 F') l → (∀ F', (Holds σ F' → Holds σ F ∧ ∀ p ∈ l, σ.ival 45 ≠ p.1) → segsW σ Q r F') → segsW σ Q (blP l r) F
  | [], r, F, _, h => h F (fun x => ⟨x, fun _ hp => by cases hp⟩)
  | (k, s) :: l, r, F, ha, h => by
    refine ⟨ha.1 _ (fun x => x.2), blP_ob l r _ ?_ (fun F' h' => h F' (fun x => ⟨(h' x).1.2, fun p hp => ?_⟩))⟩
    · have : ∀ l : List (Int × Sw), AllP (fun p => ∀ F', (Holds σ F' → Holds σ F) → segsW σ Q p.2 F') l → AllP (fun p => ∀ F', (Holds σ F' → Holds σ (.non 45 k :: F)) → segsW σ Q p.2 F') l := by
        intro l
        induction l with
        | nil => exact id
        | cons p l ih => exact fun h => ⟨fun F' h' => h.1 F' (fun x => (h' x).2), ih h.2⟩
      exact this l ha.2
    · rcases List.mem_cons.1 hp with rfl | hp
      · exact (h' x).1.1
      · exact (h' x).2 p hp

theorem hidOf : idOf (bodyOf Try.f10) = 0 := by kernel_rfl
def blQ (τ : Sig) : SEx → Shape → Sig → Prop := fun x s σ2 => (x = .normal ∧ s = blS1 ∧ τ.ival 0 < τ.ival 1 ∧ σ2.ival 0 = τ.ival 0 + 1 ∧ σ2.ival 1 = τ.ival 1 ∧ InsOk σ2 34 blK ∧ True ∧ σ2.tab = tabOf blFs ∧ σ2.ext = τ.ext) ∨ (x = .exit (idOf (bodyOf Try.f10)) ∧ s = blS2 ∧ InsOk σ2 0 [] ∧ True ∧ σ2.tab = tabOf blFs)
def acl : List Cl := [.i .u8, .i .i8, .i .i32]
/-- what holds at an act -/
structure AtAct (τ : Sig) : Prop where
  e : Eqs τ 37 blBG
  ht : τ.tab = tabOf blFs
  hin : InsOk τ 37 (blK ++ acl.map kindC)
  h0 : 0 ≤ τ.ival 0
  h01 : τ.ival 0 ≤ τ.ival 1
  hlen : τ.ival 1 ≤ 9223372036854775807
set_option maxRecDepth 100000 in
theorem bl_leaf {τ : Sig} (a : AtAct τ) (ov : List (Nat × Nat × Nat)) (hck : insAsg (kdF 37 (blK ++ acl.map kindC) blBG 12) (blA0 ov ++ [(1, .symi .i64 1)]) blK 0 = true) (F : List Fact) (hP : Holds τ F → τ.bval 37 = true) : segs τ (blQ τ) (blL ov) F := by
  obtain ⟨e, ht, hin, h0, h01, hlen⟩ := a
  have e37 : τ.bval 37 = decide (τ.ival 0 < τ.ival 1) := eqB (e.at 0 _ rfl rfl) rfl
  have e63 : τ.ival 63 = IntKind.i64.wrap (τ.ival 0 + 1) := eqI (e.at 26 _ rfl rfl) rfl
  intro hF
  have h8 := hP hF
  rw [e37, decide_eq_true_eq] at h8
  refine .inl ⟨rfl, rfl, h8, ?_, rfl, insOk_asg e hin 12 hck, trivial, ht, rfl⟩
  show τ.ival 63 = τ.ival 0 + 1
  rw [e63]
  simp [IntKind.wrap, IntKind.bits, IntKind.signed]; omega
set_option maxRecDepth 100000 in
theorem oth_ob {τ : Sig} (a : AtAct τ) (F : List Fact) (hP : Holds τ F → τ.bval 37 = true ∧ τ.ival 45 ≠ 0 ∧ τ.ival 45 ≠ 1 ∧ τ.ival 45 ≠ 2 ∧ τ.ival 45 ≠ 3 ∧ τ.ival 45 ≠ 4 ∧ τ.ival 45 ≠ 5 ∧ τ.ival 45 ≠ 6 ∧ τ.ival 45 ≠ 7 ∧ τ.ival 45 ≠ 8 ∧ τ.ival 45 ≠ 9 ∧ τ.ival 45 ≠ 10 ∧ τ.ival 45 ≠ 11 ∧ τ.ival 45 ≠ 12 ∧ τ.ival 45 ≠ 13 ∧ τ.ival 45 ≠ 14) : segsW τ (blQ τ) blO F := by
  have e := a.e
  have e45 : τ.ival 45 = IntKind.i64.wrap (τ.ival 35) := eqI (e.at 8 _ rfl rfl) rfl
  have e46 : τ.bval 46 = decide (τ.ival 45 ≥ 0) := eqB (e.at 9 _ rfl rfl) rfl
  have e47 : τ.ival 47 = IntKind.i64.wrap ((τ.ival 45 : Int).tdiv 3) := eqI (e.at 10 _ rfl rfl) rfl
  have e48 : τ.bval 48 = (τ.ival 47 == 0) := eqB (e.at 11 _ rfl rfl) rfl
  have e49 : τ.bval 49 = (τ.ival 47 == 1) := eqB (e.at 12 _ rfl rfl) rfl
  have e50 : τ.bval 50 = (τ.ival 47 == 2) := eqB (e.at 13 _ rfl rfl) rfl
  have e51 : τ.bval 51 = (τ.ival 47 == 3) := eqB (e.at 14 _ rfl rfl) rfl
  have e52 : τ.bval 52 = (τ.ival 47 == 4) := eqB (e.at 15 _ rfl rfl) rfl
  have e53 : τ.bval 53 = decide (τ.ival 45 ≤ 2) := eqB (e.at 16 _ rfl rfl) rfl
  have e54 : τ.bval 54 = decide (τ.ival 45 ≥ 3) := eqB (e.at 17 _ rfl rfl) rfl
  have e55 : τ.bval 55 = decide (τ.ival 45 ≤ 5) := eqB (e.at 18 _ rfl rfl) rfl
  have e56 : τ.bval 56 = decide (τ.ival 45 ≥ 6) := eqB (e.at 19 _ rfl rfl) rfl
  have e57 : τ.bval 57 = decide (τ.ival 45 ≤ 11) := eqB (e.at 20 _ rfl rfl) rfl
  have e58 : τ.bval 58 = decide (τ.ival 45 ≥ 12) := eqB (e.at 21 _ rfl rfl) rfl
  have e59 : τ.bval 59 = decide (τ.ival 45 ≤ 14) := eqB (e.at 22 _ rfl rfl) rfl
  have w35 : IntKind.i8.wrap (τ.ival 35) = τ.ival 35 := a.hin 35 .i8 (by decide) rfl
  have x45 : -128 ≤ τ.ival 45 ∧ τ.ival 45 ≤ 127 := by
    rw [e45]
    simp [IntKind.wrap, IntKind.bits, IntKind.signed] at w35 ⊢; omega
  have q47 : 0 ≤ τ.ival 45 → τ.ival 47 = τ.ival 45 / 3 := by
    intro h
    rw [e47, Int.tdiv_eq_ediv_of_nonneg h]
    simp [IntKind.wrap, IntKind.bits, IntKind.signed]; omega
  exact ⟨⟨(fun hF => by
        obtain ⟨hp, n0, n1, n2, n3, n4, n5, n6, n7, n8, n9, n10, n11, n12, n13, n14⟩ := hP hF.2.2
        have c48 : τ.bval 48 = true := hF.1
        have c46 : τ.bval 46 = true := hF.2.1
        simp only [e46, e48, decide_eq_true_eq, decide_eq_false_iff_not, beq_iff_eq, beq_eq_false_iff_ne, ne_eq, ge_iff_le] at c46 c48
        first | omega | (have hq := q47 (by omega); omega)), ⟨(fun hF => by
          obtain ⟨hp, n0, n1, n2, n3, n4, n5, n6, n7, n8, n9, n10, n11, n12, n13, n14⟩ := hP hF.2.2.2
          have c49 : τ.bval 49 = true := hF.1
          have c48 : τ.bval 48 = false := hF.2.1
          have c46 : τ.bval 46 = true := hF.2.2.1
          simp only [e46, e48, e49, decide_eq_true_eq, decide_eq_false_iff_not, beq_iff_eq, beq_eq_false_iff_ne, ne_eq, ge_iff_le] at c46 c48 c49
          first | omega | (have hq := q47 (by omega); omega)), ⟨(fun hF => by
            obtain ⟨hp, n0, n1, n2, n3, n4, n5, n6, n7, n8, n9, n10, n11, n12, n13, n14⟩ := hP hF.2.2.2.2
            have c50 : τ.bval 50 = true := hF.1
            have c49 : τ.bval 49 = false := hF.2.1
            have c48 : τ.bval 48 = false := hF.2.2.1
            have c46 : τ.bval 46 = true := hF.2.2.2.1
            simp only [e46, e48, e49, e50, decide_eq_true_eq, decide_eq_false_iff_not, beq_iff_eq, beq_eq_false_iff_ne, ne_eq, ge_iff_le] at c46 c48 c49 c50
            first | omega | (have hq := q47 (by omega); omega)), ⟨(fun hF => by
              obtain ⟨hp, n0, n1, n2, n3, n4, n5, n6, n7, n8, n9, n10, n11, n12, n13, n14⟩ := hP hF.2.2.2.2.2
              have c51 : τ.bval 51 = true := hF.1
              have c50 : τ.bval 50 = false := hF.2.1
              have c49 : τ.bval 49 = false := hF.2.2.1
              have c48 : τ.bval 48 = false := hF.2.2.2.1
              have c46 : τ.bval 46 = true := hF.2.2.2.2.1
              simp only [e46, e48, e49, e50, e51, decide_eq_true_eq, decide_eq_false_iff_not, beq_iff_eq, beq_eq_false_iff_ne, ne_eq, ge_iff_le] at c46 c48 c49 c50 c51
              first | omega | (have hq := q47 (by omega); omega)), ⟨(fun hF => by
                obtain ⟨hp, n0, n1, n2, n3, n4, n5, n6, n7, n8, n9, n10, n11, n12, n13, n14⟩ := hP hF.2.2.2.2.2.2
                have c52 : τ.bval 52 = true := hF.1
                have c51 : τ.bval 51 = false := hF.2.1
                have c50 : τ.bval 50 = false := hF.2.2.1
                have c49 : τ.bval 49 = false := hF.2.2.2.1
                have c48 : τ.bval 48 = false := hF.2.2.2.2.1
                have c46 : τ.bval 46 = true := hF.2.2.2.2.2.1
                simp only [e46, e48, e49, e50, e51, e52, decide_eq_true_eq, decide_eq_false_iff_not, beq_iff_eq, beq_eq_false_iff_ne, ne_eq, ge_iff_le] at c46 c48 c49 c50 c51 c52
                first | omega | (have hq := q47 (by omega); omega)), ⟨(fun hF => by
                  obtain ⟨hp, n0, n1, n2, n3, n4, n5, n6, n7, n8, n9, n10, n11, n12, n13, n14⟩ := hP hF.2.2.2.2.2.2.2
                  have c53 : τ.bval 53 = true := hF.1
                  have c52 : τ.bval 52 = false := hF.2.1
                  have c51 : τ.bval 51 = false := hF.2.2.1
                  have c50 : τ.bval 50 = false := hF.2.2.2.1
                  have c49 : τ.bval 49 = false := hF.2.2.2.2.1
                  have c48 : τ.bval 48 = false := hF.2.2.2.2.2.1
                  have c46 : τ.bval 46 = true := hF.2.2.2.2.2.2.1
                  simp only [e46, e48, e49, e50, e51, e52, e53, decide_eq_true_eq, decide_eq_false_iff_not, beq_iff_eq, beq_eq_false_iff_ne, ne_eq, ge_iff_le] at c46 c48 c49 c50 c51 c52 c53
                  first | omega | (have hq := q47 (by omega); omega)), ⟨⟨(fun hF => by
                      obtain ⟨hp, n0, n1, n2, n3, n4, n5, n6, n7, n8, n9, n10, n11, n12, n13, n14⟩ := hP hF.2.2.2.2.2.2.2.2.2
                      have c55 : τ.bval 55 = true := hF.1
                      have c54 : τ.bval 54 = true := hF.2.1
                      have c53 : τ.bval 53 = false := hF.2.2.1
                      have c52 : τ.bval 52 = false := hF.2.2.2.1
                      have c51 : τ.bval 51 = false := hF.2.2.2.2.1
                      have c50 : τ.bval 50 = false := hF.2.2.2.2.2.1
                      have c49 : τ.bval 49 = false := hF.2.2.2.2.2.2.1
                      have c48 : τ.bval 48 = false := hF.2.2.2.2.2.2.2.1
                      have c46 : τ.bval 46 = true := hF.2.2.2.2.2.2.2.2.1
                      simp only [e46, e48, e49, e50, e51, e52, e53, e54, e55, decide_eq_true_eq, decide_eq_false_iff_not, beq_iff_eq, beq_eq_false_iff_ne, ne_eq, ge_iff_le] at c46 c48 c49 c50 c51 c52 c53 c54 c55
                      first | omega | (have hq := q47 (by omega); omega)), ⟨⟨(fun hF => by
                          obtain ⟨hp, n0, n1, n2, n3, n4, n5, n6, n7, n8, n9, n10, n11, n12, n13, n14⟩ := hP hF.2.2.2.2.2.2.2.2.2.2.2
                          have c57 : τ.bval 57 = true := hF.1
                          have c56 : τ.bval 56 = true := hF.2.1
                          have c55 : τ.bval 55 = false := hF.2.2.1
                          have c54 : τ.bval 54 = true := hF.2.2.2.1
                          have c53 : τ.bval 53 = false := hF.2.2.2.2.1
                          have c52 : τ.bval 52 = false := hF.2.2.2.2.2.1
                          have c51 : τ.bval 51 = false := hF.2.2.2.2.2.2.1
                          have c50 : τ.bval 50 = false := hF.2.2.2.2.2.2.2.1
                          have c49 : τ.bval 49 = false := hF.2.2.2.2.2.2.2.2.1
                          have c48 : τ.bval 48 = false := hF.2.2.2.2.2.2.2.2.2.1
                          have c46 : τ.bval 46 = true := hF.2.2.2.2.2.2.2.2.2.2.1
                          simp only [e46, e48, e49, e50, e51, e52, e53, e54, e55, e56, e57, decide_eq_true_eq, decide_eq_false_iff_not, beq_iff_eq, beq_eq_false_iff_ne, ne_eq, ge_iff_le] at c46 c48 c49 c50 c51 c52 c53 c54 c55 c56 c57
                          first | omega | (have hq := q47 (by omega); omega)), ⟨⟨(fun hF => by
                              obtain ⟨hp, n0, n1, n2, n3, n4, n5, n6, n7, n8, n9, n10, n11, n12, n13, n14⟩ := hP hF.2.2.2.2.2.2.2.2.2.2.2.2.2
                              have c59 : τ.bval 59 = true := hF.1
                              have c58 : τ.bval 58 = true := hF.2.1
                              have c57 : τ.bval 57 = false := hF.2.2.1
                              have c56 : τ.bval 56 = true := hF.2.2.2.1
                              have c55 : τ.bval 55 = false := hF.2.2.2.2.1
                              have c54 : τ.bval 54 = true := hF.2.2.2.2.2.1
                              have c53 : τ.bval 53 = false := hF.2.2.2.2.2.2.1
                              have c52 : τ.bval 52 = false := hF.2.2.2.2.2.2.2.1
                              have c51 : τ.bval 51 = false := hF.2.2.2.2.2.2.2.2.1
                              have c50 : τ.bval 50 = false := hF.2.2.2.2.2.2.2.2.2.1
                              have c49 : τ.bval 49 = false := hF.2.2.2.2.2.2.2.2.2.2.1
                              have c48 : τ.bval 48 = false := hF.2.2.2.2.2.2.2.2.2.2.2.1
                              have c46 : τ.bval 46 = true := hF.2.2.2.2.2.2.2.2.2.2.2.2.1
                              simp only [e46, e48, e49, e50, e51, e52, e53, e54, e55, e56, e57, e58, e59, decide_eq_true_eq, decide_eq_false_iff_not, beq_iff_eq, beq_eq_false_iff_ne, ne_eq, ge_iff_le] at c46 c48 c49 c50 c51 c52 c53 c54 c55 c56 c57 c58 c59
                              first | omega | (have hq := q47 (by omega); omega)), (bl_leaf a [] (by kernel_rfl) _ (fun hF => (hP hF.2.2.2.2.2.2.2.2.2.2.2.2.2).1))⟩, (fun hF => by
                            obtain ⟨hp, n0, n1, n2, n3, n4, n5, n6, n7, n8, n9, n10, n11, n12, n13, n14⟩ := hP hF.2.2.2.2.2.2.2.2.2.2.2.2
                            have c58 : τ.bval 58 = false := hF.1
                            have c57 : τ.bval 57 = false := hF.2.1
                            have c56 : τ.bval 56 = true := hF.2.2.1
                            have c55 : τ.bval 55 = false := hF.2.2.2.1
                            have c54 : τ.bval 54 = true := hF.2.2.2.2.1
                            have c53 : τ.bval 53 = false := hF.2.2.2.2.2.1
                            have c52 : τ.bval 52 = false := hF.2.2.2.2.2.2.1
                            have c51 : τ.bval 51 = false := hF.2.2.2.2.2.2.2.1
                            have c50 : τ.bval 50 = false := hF.2.2.2.2.2.2.2.2.1
                            have c49 : τ.bval 49 = false := hF.2.2.2.2.2.2.2.2.2.1
                            have c48 : τ.bval 48 = false := hF.2.2.2.2.2.2.2.2.2.2.1
                            have c46 : τ.bval 46 = true := hF.2.2.2.2.2.2.2.2.2.2.2.1
                            simp only [e46, e48, e49, e50, e51, e52, e53, e54, e55, e56, e57, e58, decide_eq_true_eq, decide_eq_false_iff_not, beq_iff_eq, beq_eq_false_iff_ne, ne_eq, ge_iff_le] at c46 c48 c49 c50 c51 c52 c53 c54 c55 c56 c57 c58
                            first | omega | (have hq := q47 (by omega); omega))⟩⟩, (fun hF => by
                        obtain ⟨hp, n0, n1, n2, n3, n4, n5, n6, n7, n8, n9, n10, n11, n12, n13, n14⟩ := hP hF.2.2.2.2.2.2.2.2.2.2
                        have c56 : τ.bval 56 = false := hF.1
                        have c55 : τ.bval 55 = false := hF.2.1
                        have c54 : τ.bval 54 = true := hF.2.2.1
                        have c53 : τ.bval 53 = false := hF.2.2.2.1
                        have c52 : τ.bval 52 = false := hF.2.2.2.2.1
                        have c51 : τ.bval 51 = false := hF.2.2.2.2.2.1
                        have c50 : τ.bval 50 = false := hF.2.2.2.2.2.2.1
                        have c49 : τ.bval 49 = false := hF.2.2.2.2.2.2.2.1
                        have c48 : τ.bval 48 = false := hF.2.2.2.2.2.2.2.2.1
                        have c46 : τ.bval 46 = true := hF.2.2.2.2.2.2.2.2.2.1
                        simp only [e46, e48, e49, e50, e51, e52, e53, e54, e55, e56, decide_eq_true_eq, decide_eq_false_iff_not, beq_iff_eq, beq_eq_false_iff_ne, ne_eq, ge_iff_le] at c46 c48 c49 c50 c51 c52 c53 c54 c55 c56
                        first | omega | (have hq := q47 (by omega); omega))⟩⟩, (fun hF => by
                    obtain ⟨hp, n0, n1, n2, n3, n4, n5, n6, n7, n8, n9, n10, n11, n12, n13, n14⟩ := hP hF.2.2.2.2.2.2.2.2
                    have c54 : τ.bval 54 = false := hF.1
                    have c53 : τ.bval 53 = false := hF.2.1
                    have c52 : τ.bval 52 = false := hF.2.2.1
                    have c51 : τ.bval 51 = false := hF.2.2.2.1
                    have c50 : τ.bval 50 = false := hF.2.2.2.2.1
                    have c49 : τ.bval 49 = false := hF.2.2.2.2.2.1
                    have c48 : τ.bval 48 = false := hF.2.2.2.2.2.2.1
                    have c46 : τ.bval 46 = true := hF.2.2.2.2.2.2.2.1
                    simp only [e46, e48, e49, e50, e51, e52, e53, e54, decide_eq_true_eq, decide_eq_false_iff_not, beq_iff_eq, beq_eq_false_iff_ne, ne_eq, ge_iff_le] at c46 c48 c49 c50 c51 c52 c53 c54
                    first | omega | (have hq := q47 (by omega); omega))⟩⟩⟩⟩⟩⟩⟩, ⟨(fun hF => by
        obtain ⟨hp, n0, n1, n2, n3, n4, n5, n6, n7, n8, n9, n10, n11, n12, n13, n14⟩ := hP hF.2.2
        have c54 : τ.bval 54 = true := hF.1
        have c46 : τ.bval 46 = false := hF.2.1
        simp only [e46, e54, decide_eq_true_eq, decide_eq_false_iff_not, beq_iff_eq, beq_eq_false_iff_ne, ne_eq, ge_iff_le] at c46 c54
        first | omega | (have hq := q47 (by omega); omega)), ⟨(fun hF => by
          obtain ⟨hp, n0, n1, n2, n3, n4, n5, n6, n7, n8, n9, n10, n11, n12, n13, n14⟩ := hP hF.2.2.2
          have c56 : τ.bval 56 = true := hF.1
          have c54 : τ.bval 54 = false := hF.2.1
          have c46 : τ.bval 46 = false := hF.2.2.1
          simp only [e46, e54, e56, decide_eq_true_eq, decide_eq_false_iff_not, beq_iff_eq, beq_eq_false_iff_ne, ne_eq, ge_iff_le] at c46 c54 c56
          first | omega | (have hq := q47 (by omega); omega)), ⟨(fun hF => by
            obtain ⟨hp, n0, n1, n2, n3, n4, n5, n6, n7, n8, n9, n10, n11, n12, n13, n14⟩ := hP hF.2.2.2.2
            have c58 : τ.bval 58 = true := hF.1
            have c56 : τ.bval 56 = false := hF.2.1
            have c54 : τ.bval 54 = false := hF.2.2.1
            have c46 : τ.bval 46 = false := hF.2.2.2.1
            simp only [e46, e54, e56, e58, decide_eq_true_eq, decide_eq_false_iff_not, beq_iff_eq, beq_eq_false_iff_ne, ne_eq, ge_iff_le] at c46 c54 c56 c58
            first | omega | (have hq := q47 (by omega); omega)), (bl_leaf a [] (by kernel_rfl) _ (fun hF => (hP hF.2.2.2.2).1))⟩⟩⟩⟩
set_option maxRecDepth 100000 in
theorem rd_ob3 {τ : Sig} (a : AtAct τ) : τ.bval 206 = false := by
  have e := a.e
  have e160 : τ.ival 160 = IntKind.i32.wrap (τ.tab 64 [τ.ival 5, τ.ival 6, τ.ival 7, τ.ival 8, τ.ival 9, τ.ival 10, τ.ival 11, τ.ival 12, τ.ival 13, τ.ival 14, τ.ival 15, τ.ival 16, τ.ival 17, τ.ival 18, τ.ival 19, τ.ival 20, τ.ival 21, τ.ival 22, (if τ.bval 23 then 1 else 0), τ.ival 24, τ.ival 25, 3]) := eqI (e.at 123 _ rfl rfl) rfl
  have e182 : τ.ival 182 = IntKind.i32.wrap (τ.tab 0 [τ.ival 5, τ.ival 6, τ.ival 7, τ.ival 8, τ.ival 9, τ.ival 10, τ.ival 11, τ.ival 12, τ.ival 13, τ.ival 14, τ.ival 15, τ.ival 16, τ.ival 17, τ.ival 18, τ.ival 19, τ.ival 20, τ.ival 21, τ.ival 22, (if τ.bval 23 then 1 else 0), τ.ival 24, τ.ival 25, 3]) := eqI (e.at 145 _ rfl rfl) rfl
  have e183 : τ.bval 183 = (τ.ival 160 != τ.ival 182) := eqB (e.at 146 _ rfl rfl) rfl
  have e184 : τ.bval 184 = (!τ.bval 183) := eqB (e.at 147 _ rfl rfl) rfl
  have e206 : τ.bval 206 = (!τ.bval 184) := eqB (e.at 169 _ rfl rfl) rfl
  have h : τ.ival 160 = τ.ival 182 := by
    rw [e160, e182, a.ht]
    exact read_peek _ _ _ _ _ _ _ _ _ _ _ _ _ _ _ _ _ _ _ _ _ _
  rw [e206, e184, e183, h]
  simp
set_option maxRecDepth 100000 in
theorem rd_ob4 {τ : Sig} (a : AtAct τ) : τ.bval 253 = false := by
  have e := a.e
  have e207 : τ.ival 207 = IntKind.i32.wrap (τ.tab 64 [τ.ival 5, τ.ival 6, τ.ival 7, τ.ival 8, τ.ival 9, τ.ival 10, τ.ival 11, τ.ival 12, τ.ival 13, τ.ival 14, τ.ival 15, τ.ival 16, τ.ival 17, τ.ival 18, τ.ival 19, τ.ival 20, τ.ival 21, τ.ival 22, (if τ.bval 23 then 1 else 0), τ.ival 24, τ.ival 25, 4]) := eqI (e.at 170 _ rfl rfl) rfl
  have e229 : τ.ival 229 = IntKind.i32.wrap (τ.tab 0 [τ.ival 5, τ.ival 6, τ.ival 7, τ.ival 8, τ.ival 9, τ.ival 10, τ.ival 11, τ.ival 12, τ.ival 13, τ.ival 14, τ.ival 15, τ.ival 16, τ.ival 17, τ.ival 18, τ.ival 19, τ.ival 20, τ.ival 21, τ.ival 22, (if τ.bval 23 then 1 else 0), τ.ival 24, τ.ival 25, 4]) := eqI (e.at 192 _ rfl rfl) rfl
  have e230 : τ.bval 230 = (τ.ival 207 != τ.ival 229) := eqB (e.at 193 _ rfl rfl) rfl
  have e231 : τ.bval 231 = (!τ.bval 230) := eqB (e.at 194 _ rfl rfl) rfl
  have e253 : τ.bval 253 = (!τ.bval 231) := eqB (e.at 216 _ rfl rfl) rfl
  have h : τ.ival 207 = τ.ival 229 := by
    rw [e207, e229, a.ht]
    exact read_peek _ _ _ _ _ _ _ _ _ _ _ _ _ _ _ _ _ _ _ _ _ _
  rw [e253, e231, e230, h]
  simp
set_option maxRecDepth 100000 in
theorem rd_ob5 {τ : Sig} (a : AtAct τ) : τ.bval 300 = false := by
  have e := a.e
  have e254 : τ.ival 254 = IntKind.i32.wrap (τ.tab 64 [τ.ival 5, τ.ival 6, τ.ival 7, τ.ival 8, τ.ival 9, τ.ival 10, τ.ival 11, τ.ival 12, τ.ival 13, τ.ival 14, τ.ival 15, τ.ival 16, τ.ival 17, τ.ival 18, τ.ival 19, τ.ival 20, τ.ival 21, τ.ival 22, (if τ.bval 23 then 1 else 0), τ.ival 24, τ.ival 25, 5]) := eqI (e.at 217 _ rfl rfl) rfl
  have e276 : τ.ival 276 = IntKind.i32.wrap (τ.tab 0 [τ.ival 5, τ.ival 6, τ.ival 7, τ.ival 8, τ.ival 9, τ.ival 10, τ.ival 11, τ.ival 12, τ.ival 13, τ.ival 14, τ.ival 15, τ.ival 16, τ.ival 17, τ.ival 18, τ.ival 19, τ.ival 20, τ.ival 21, τ.ival 22, (if τ.bval 23 then 1 else 0), τ.ival 24, τ.ival 25, 5]) := eqI (e.at 239 _ rfl rfl) rfl
  have e277 : τ.bval 277 = (τ.ival 254 != τ.ival 276) := eqB (e.at 240 _ rfl rfl) rfl
  have e278 : τ.bval 278 = (!τ.bval 277) := eqB (e.at 241 _ rfl rfl) rfl
  have e300 : τ.bval 300 = (!τ.bval 278) := eqB (e.at 263 _ rfl rfl) rfl
  have h : τ.ival 254 = τ.ival 276 := by
    rw [e254, e276, a.ht]
    exact read_peek _ _ _ _ _ _ _ _ _ _ _ _ _ _ _ _ _ _ _ _ _ _
  rw [e300, e278, e277, h]
  simp
set_option maxRecDepth 100000 in
theorem blB_ob {τ : Sig} (a : AtAct τ) : segsW τ (blQ τ) blBW [] := by
  have e := a.e
  have e39 : τ.bval 39 = decide (0 ≤ τ.ival 0) := eqB (e.at 2 _ rfl rfl) rfl
  refine ⟨⟨⟨⟨blP_ob blWl blO _ ?_ (fun F' h => oth_ob a F' (fun x => ⟨(h x).1.2.2.2.1, (h x).2 _ (List.mem_iff_getElem.2 ⟨0, by decide, rfl⟩), (h x).2 _ (List.mem_iff_getElem.2 ⟨1, by decide, rfl⟩), (h x).2 _ (List.mem_iff_getElem.2 ⟨2, by decide, rfl⟩), (h x).2 _ (List.mem_iff_getElem.2 ⟨3, by decide, rfl⟩), (h x).2 _ (List.mem_iff_getElem.2 ⟨4, by decide, rfl⟩), (h x).2 _ (List.mem_iff_getElem.2 ⟨5, by decide, rfl⟩), (h x).2 _ (List.mem_iff_getElem.2 ⟨6, by decide, rfl⟩), (h x).2 _ (List.mem_iff_getElem.2 ⟨7, by decide, rfl⟩), (h x).2 _ (List.mem_iff_getElem.2 ⟨8, by decide, rfl⟩), (h x).2 _ (List.mem_iff_getElem.2 ⟨9, by decide, rfl⟩), (h x).2 _ (List.mem_iff_getElem.2 ⟨10, by decide, rfl⟩), (h x).2 _ (List.mem_iff_getElem.2 ⟨11, by decide, rfl⟩), (h x).2 _ (List.mem_iff_getElem.2 ⟨12, by decide, rfl⟩), (h x).2 _ (List.mem_iff_getElem.2 ⟨13, by decide, rfl⟩), (h x).2 _ (List.mem_iff_getElem.2 ⟨14, by decide, rfl⟩)⟩)), ⟨blP_ob blRl blO _ ?_ (fun F' h => oth_ob a F' (fun x => ⟨(h x).1.2.2.2.2.1, (h x).2 _ (List.mem_iff_getElem.2 ⟨0, by decide, rfl⟩), (h x).2 _ (List.mem_iff_getElem.2 ⟨1, by decide, rfl⟩), (h x).2 _ (List.mem_iff_getElem.2 ⟨2, by decide, rfl⟩), (h x).2 _ (List.mem_iff_getElem.2 ⟨3, by decide, rfl⟩), (h x).2 _ (List.mem_iff_getElem.2 ⟨4, by decide, rfl⟩), (h x).2 _ (List.mem_iff_getElem.2 ⟨5, by decide, rfl⟩), (h x).2 _ (List.mem_iff_getElem.2 ⟨6, by decide, rfl⟩), (h x).2 _ (List.mem_iff_getElem.2 ⟨7, by decide, rfl⟩), (h x).2 _ (List.mem_iff_getElem.2 ⟨8, by decide, rfl⟩), (h x).2 _ (List.mem_iff_getElem.2 ⟨9, by decide, rfl⟩), (h x).2 _ (List.mem_iff_getElem.2 ⟨10, by decide, rfl⟩), (h x).2 _ (List.mem_iff_getElem.2 ⟨11, by decide, rfl⟩), (h x).2 _ (List.mem_iff_getElem.2 ⟨12, by decide, rfl⟩), (h x).2 _ (List.mem_iff_getElem.2 ⟨13, by decide, rfl⟩), (h x).2 _ (List.mem_iff_getElem.2 ⟨14, by decide, rfl⟩)⟩)), ⟨bl_leaf a [(0, 3, 311), (30, 2, 317)] (by kernel_rfl) _ (fun x => x.2.2.2.2.2.1), ⟨bl_leaf a [(3, 21, 319), (30, 2, 343)] (by kernel_rfl) _ (fun x => x.2.2.2.2.2.2.1), bl_leaf a [(3, 21, 361), (24, 3, 345), (27, 3, 353), (30, 2, 387)] (by kernel_rfl) _ (fun x => x.2.2.2.2.2.2.1)⟩⟩⟩⟩, fun hF => ?_⟩, fun hF => ?_⟩, fun hF => ?_⟩
  · exact ⟨fun F' h => bl_leaf a [(0, 3, 60)] (by kernel_rfl) F' (fun x => (h x).2.2.2.1), fun F' h => bl_leaf a [(0, 3, 64)] (by kernel_rfl) F' (fun x => (h x).2.2.2.1), fun F' h => bl_leaf a [(0, 3, 67)] (by kernel_rfl) F' (fun x => (h x).2.2.2.1), fun F' h => bl_leaf a [(3, 21, 70)] (by kernel_rfl) F' (fun x => (h x).2.2.2.1), fun F' h => bl_leaf a [(3, 21, 91)] (by kernel_rfl) F' (fun x => (h x).2.2.2.1), fun F' h => bl_leaf a [(3, 21, 112)] (by kernel_rfl) F' (fun x => (h x).2.2.2.1), fun F' h => bl_leaf a [(24, 3, 133)] (by kernel_rfl) F' (fun x => (h x).2.2.2.1), fun F' h => bl_leaf a [(24, 3, 136)] (by kernel_rfl) F' (fun x => (h x).2.2.2.1), fun F' h => bl_leaf a [(24, 3, 139)] (by kernel_rfl) F' (fun x => (h x).2.2.2.1), fun F' h => bl_leaf a [(27, 3, 142)] (by kernel_rfl) F' (fun x => (h x).2.2.2.1), fun F' h => bl_leaf a [(27, 3, 145)] (by kernel_rfl) F' (fun x => (h x).2.2.2.1), fun F' h => bl_leaf a [(27, 3, 148)] (by kernel_rfl) F' (fun x => (h x).2.2.2.1), fun F' h => bl_leaf a [(30, 2, 151)] (by kernel_rfl) F' (fun x => (h x).2.2.2.1), fun F' h => bl_leaf a [(30, 2, 153)] (by kernel_rfl) F' (fun x => (h x).2.2.2.1), fun F' h => bl_leaf a [(30, 2, 155)] (by kernel_rfl) F' (fun x => (h x).2.2.2.1), trivial⟩
  · exact ⟨fun F' h => bl_leaf a [] (by kernel_rfl) F' (fun x => (h x).2.2.2.2.1), fun F' h => bl_leaf a [] (by kernel_rfl) F' (fun x => (h x).2.2.2.2.1), fun F' h => bl_leaf a [] (by kernel_rfl) F' (fun x => (h x).2.2.2.2.1), fun F' h => ⟨(fun hF => by have c : τ.bval 206 = true := hF.1; rw [rd_ob3 a] at c; cases c), bl_leaf a [(3, 21, 185)] (by kernel_rfl) _ (fun x => (h x.2).2.2.2.2.1)⟩, fun F' h => ⟨(fun hF => by have c : τ.bval 253 = true := hF.1; rw [rd_ob4 a] at c; cases c), bl_leaf a [(3, 21, 232)] (by kernel_rfl) _ (fun x => (h x.2).2.2.2.2.1)⟩, fun F' h => ⟨(fun hF => by have c : τ.bval 300 = true := hF.1; rw [rd_ob5 a] at c; cases c), bl_leaf a [(3, 21, 279)] (by kernel_rfl) _ (fun x => (h x.2).2.2.2.2.1)⟩, fun F' h => bl_leaf a [] (by kernel_rfl) F' (fun x => (h x).2.2.2.2.1), fun F' h => bl_leaf a [] (by kernel_rfl) F' (fun x => (h x).2.2.2.2.1), fun F' h => bl_leaf a [] (by kernel_rfl) F' (fun x => (h x).2.2.2.2.1), fun F' h => bl_leaf a [] (by kernel_rfl) F' (fun x => (h x).2.2.2.2.1), fun F' h => bl_leaf a [] (by kernel_rfl) F' (fun x => (h x).2.2.2.2.1), fun F' h => bl_leaf a [] (by kernel_rfl) F' (fun x => (h x).2.2.2.2.1), fun F' h => bl_leaf a [] (by kernel_rfl) F' (fun x => (h x).2.2.2.2.1), fun F' h => bl_leaf a [] (by kernel_rfl) F' (fun x => (h x).2.2.2.2.1), fun F' h => bl_leaf a [] (by kernel_rfl) F' (fun x => (h x).2.2.2.2.1), trivial⟩
  · have h : τ.bval 39 = false := hF.1
    rw [e39, decide_eq_false_iff_not] at h
    exact h a.h0
  · exact .inr ⟨congrArg SEx.exit hidOf.symm, rfl, fun i k hi _ => absurd hi (by omega), trivial, a.ht⟩
  · exact .inr ⟨congrArg SEx.exit hidOf.symm, rfl, fun i k hi _ => absurd hi (by omega), trivial, a.ht⟩

theorem walk (W : World) (v0 : Value) (X0 : Fz) (r0 : RowV W [.i .u8, .i .i8, .i .i32] v0 X0) :
    Calls Try.prog 10 #[v0] W fun e W' => e = .returned (.bool true) ∧ Below W.heap.size W W' :=
  rows_walkG (q := 34) (k := 0) (n := 29) (ss := []) (insq := blK) (ins2 := []) (S0 := blS0) (S1 := blS1) (S2 := blS2) (SE := blSE) (J := fun _ _ => True) (K := fun _ _ => True) (vs := [.symb 0]) (l := [])
    mixed Try.func10 (by kernel_rfl) (by kernel_rfl) (by kernel_rfl) rfl (by decide) rfl rfl (fun l => by simp [encS]) (by kernel_rfl) (by kernel_rfl)
    blA_seg ⟨rfl, rfl, rfl⟩ blB_seg ⟨rfl, rfl, rfl⟩ blC_seg ⟨rfl, rfl⟩ (fun _ _ _ _ h => h) (fun _ _ _ _ h => h)
    (fun l τ hl e ht hin hi _ => ⟨rfl, rfl, rfl, rfl, insOk_asg e hin 12 (by kernel_rfl), trivial, ht, rfl⟩)
    (fun l τ hl e ht hin h0 h01 hlen _ => blB_ob ⟨e, ht, hin, h0, h01, hlen⟩)
    (fun l τ hl e ht hin _ _ => ⟨.inl rfl, rfl, rfl, trivial⟩)
    r0 rfl

section
variable {H : Type} {enc : TypeId × Value → H} {P : Program}
theorem post_of_below {f : Func} {s : ChangeSpec} {apart fresh handsOn again : Bool} {W W' : World} {args : Array Value} {v : Value} {ds gs : List (DataW H)} {before pa pv : List MemPlace}
    (hW : DataW.Whole enc P f.params.toList s.vars apart W args.toList ds gs before)
    (hres : ∀ (b : Nat) (sp : Nat → Bool) (hd : Bool), DataW.TrodAll enc P W' b sp hd f.resultTypes.toList (v.resultList f.resultTypes.size) (s.fn H (ds ++ gs)).results [])
    (hargs : ∀ sp : Nat → Bool, (∀ p ∈ before, sp p.block = true) → DataW.TrodAll enc P W' 0 sp true f.params.toList args.toList (s.fn H (ds ++ gs)).args pa)
    (hvars : ∀ sp : Nat → Bool, (∀ p ∈ before, sp p.block = true) → DataW.TrodVars enc P W' sp s.vars (s.fn H (ds ++ gs)).vars pv)
    (hps : before = pa ++ pv) (hb : Below W.heap.size W W')
    (hok : ∀ (j : Nat) (t : TypeId) (r : Value), f.resultTypes[j]? = some t → (v.resultList f.resultTypes.size)[j]? = some r → Value.okWide P W' .any 0 t r) :
    s.post enc P f apart fresh handsOn again W args v W' := by
  have hlt : ∀ p ∈ before, p.block < W.heap.size := fun p hp => hW.lt p hp
  have hold : ∀ p ∈ before, (fun b => decide (b < W.heap.size)) p.block = true := fun p hp => by simpa using hlt p hp
  refine ⟨ds, gs, before, [], pa, pv, hW, hres _ _ _, hargs _ hold, hvars _ hold, World.keptBut_mono (fun p hp => ⟨hp, ?_⟩) (hb.frame (· ∈ before)), fun _ => ?_⟩
  · rw [hps, List.mem_append] at hp
    exact Or.inr hp
  · obtain ⟨_, _, _, _, _, hz, hn⟩ := hW
    refine ⟨hok, _, _, ([] ++ pa) ++ pv, ⟨[] ++ pa, pv, trodAll_append (hargs _ (fun _ _ => rfl)) (hres _ _ _), hvars _ (fun _ _ => rfl), rfl, ?_, ?_⟩, ?_⟩
    · intro b off hp
      have hin : MemPlace.cell b off ∈ before := by rw [hps]; simpa using hp
      rw [hb.frozen (hlt _ hin)]
      exact hz b off hin
    · intro ha
      have := hn ha
      rw [hps] at this
      simpa using this
    · intro p hp _
      rw [hps]
      simpa using hp
end


theorem size60 : Nat.beq (Try.prog.cellsOf 60) ([.i .u8, .i .i8, .i .i32] : List Cl).length = true := by kernel_rfl
theorem flat60 : flat Try.prog 4 60 = some [.i .u8, .i .i8, .i .i32] := by kernel_rfl

set_option maxRecDepth 100000 in
theorem lifted (os : Os) (started : os.Started) (H : Type) (enc : TypeId × Value → H) :
    ReturnsInHanded {} Try.checked os 10 .any (Rows.bankPlaysSpec.pre6 enc Try.prog Try.f10 Rows.bankPlaysRow.domain false) (Rows.bankPlaysSpec.post enc Try.prog Try.f10 false true false false) := by
  refine returnsInHanded_of_change (C := Try.checked) own started (by kernel_rfl) Try.func10
    (ChangeSpec.witness6 (enc := enc) (C := Try.checked) false ⟨#[], #[.slice none 0 0], []⟩ 8 (by kernel_rfl) (by kernel_rfl) (by kernel_rfl) (by kernel_rfl)) ?_
  intro W base args ds gs before hval0 hW hcnd _
  have hval : ∀ (j : Nat) t v, Try.f10.params[j]? = some t → args[j]? = some v → Value.okWide Try.prog W .any base t v := hval0
  have hW' := hW
  obtain ⟨p, q, hA0, hV, rfl, hfz, hnd⟩ := hW
  have hA : DataW.TrodAll enc Try.prog W 0 (fun _ => true) true Try.f10.params.toList args.toList ds p := hA0
  rw [Try.params10] at hA hval
  obtain ⟨v0, vs0, d0, ds0, p0, q0, hargs, rfl, rfl, h0, r0⟩ := trodAll_cons hA
  obtain ⟨rfl, rfl, rfl⟩ := trodAll_nil r0
  obtain rfl : args = #[v0] := by cases args; simp_all
  obtain ⟨rfl, rfl⟩ := trodVars_none hV
  obtain ⟨X0, R0⟩ := open_rows (cl := [.i .u8, .i .i8, .i .i32]) Try.underlying57 flat60 size60 rfl (hval 0 57 v0 rfl rfl) h0
  clear hA0 hval0
  simp only [List.append_nil] at hW'
  refine (walk W v0 X0 R0.row).mono fun e W' ⟨he, hg⟩ => ?_
  subst he
  exact ⟨_, rfl, post_of_below (pa := p0 ++ ([])) (pv := []) hW' (fun _ _ _ => (trodAll_cons_mk (shut_bool Try.underlying4 _) trodAll_mk0)) (fun sp hsp => (trodAll_cons_mk (R0.again W' hg sp (fun z hz => hsp z (by simp [hz]))) trodAll_mk0)) (fun _ _ => rfl) (by simp)
    hg (ok_one (by kernel_rfl) rfl (okWide_bool_mk Try.underlying4 _))⟩

theorem over : Rows.bankPlaysRow.holds Try.pinned (OpenSpec.ofChange Rows.bankPlaysSpec) :=
  OpenClaim.holds_of_wide 10 Try.f10 rfl rfl rfl rfl rfl rfl rfl ⟨rfl, rfl, rfl, rfl, rfl⟩ rfl rfl rfl rfl rfl (by kernel_rfl) Try.func10 (by kernel_rfl)
    (of_decide_eq_true (by kernel_rfl)) (by unfold Func.isWrapper; first | (rw [if_pos (by decide +kernel)]; kernel_rfl) | (rw [if_neg (by decide +kernel)]; exact ⟨rfl, rfl⟩))
    (fun os started H enc _ => lifted os started H enc)

/-- THE STATEMENT -/
theorem proved : Rows.BankPlaysSaid :=
  over
#print axioms proved
end Go.Proofs.Ytgifnmiggloclab.bankPlays
