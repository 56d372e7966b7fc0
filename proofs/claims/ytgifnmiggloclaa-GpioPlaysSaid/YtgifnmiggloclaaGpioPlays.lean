/-
  GpioPlays is true: a walk over the row of acts; the pins and the document's are one at the loop's head (shared unknowns).
  No conditions.
-/
import Derived.Test.YtgifnmiggloclaaRows
import Derived.WalkKit
import Derived.ProofKit
import Derived.OpenShut
import Derived.Below
import Derived.ChangeSame
import Derived.Test.YtgifnmiggloclaaGq0
import Derived.Test.YtgifnmiggloclaaGq1
import Derived.Test.YtgifnmiggloclaaGq2
import Derived.Test.YtgifnmiggloclaaGq3
namespace Go.Proofs.Ytgifnmiggloclaa.gpioPlays
open Go.ChangeShapes Go.WideShapes Go.ChangeAt Go.RowKit
open Go.Ev Go.Proofs.Ytgifnmiggloclaa.gp Go.Proofs.Ytgifnmiggloclaa.rp
open Go.Proofs.Ytgifnmiggloclaa.bi (bitF)
set_option linter.unusedVariables false
set_option linter.unusedSimpArgs false

theorem own : ownKnob Try.prog.godebug = none := by kernel_rfl
theorem mixed : Try.prog.follows .mixedOrders = true := bi.mixed

theorem gpB_reck : okSw (runOf Try.prog gpBX ([loopOf (bodyOf Try.f6)]) gpS1 139) gpBW [] = true := by
  have h : okSw (runOf Try.prog gpBX ([loopOf (bodyOf Try.f6)]) gpS1 139) (gpW gpDs) [.tru 12 false, .tru 10 true, .tru 9 true, .tru 8 true] = true := (gpW_ok (gpW_ok (gpW_ok (gpW_ok gp_ttttt gp_ttttf) (gpW_ok gp_tttft gp_tttff)) (gpW_ok (gpW_ok gp_ttftt gp_ttftf) (gpW_ok gp_ttfft gp_ttfff))) (gpW_ok (gpW_ok (gpW_ok gp_tfttt gp_tfttf) (gpW_ok gp_tftft gp_tftff)) (gpW_ok (gpW_ok gp_tfftt gp_tfftf) (gpW_ok gp_tffft gp_tffff))))
  show ((((okSw (runOf Try.prog gpBX ([loopOf (bodyOf Try.f6)]) gpS1 139) gpLW [.tru 12 true, .tru 10 true, .tru 9 true, .tru 8 true] && okSw (runOf Try.prog gpBX ([loopOf (bodyOf Try.f6)]) gpS1 139) (gpW gpDs) [.tru 12 false, .tru 10 true, .tru 9 true, .tru 8 true]) && true) && okSw (runOf Try.prog gpBX ([loopOf (bodyOf Try.f6)]) gpS1 139) gpLX [.tru 9 false, .tru 8 true]) && okSw (runOf Try.prog gpBX ([loopOf (bodyOf Try.f6)]) gpS1 139) gpLX [.tru 8 false]) = true
  rw [gp_w, h, gp_x9, gp_x8]; rfl
theorem gpB_seg : SegOk Try.prog (tabOf gpFs) 139 ([loopOf (bodyOf Try.f6)]) gpS1 gpBX gpBW where
  lt := gpB_lt
  ok := gpB_ok
  hook := fun F => or_hooks gpB_lt rfl rfl gp_tru gp_all F
  n0 := rfl
  id := by kernel_rfl
  reck := gpB_reck
  tab := rfl
  cuts := rfl
  kt := by kernel_rfl

theorem gpW_ob {σ : Sig} {Q : SEx → Shape → Sig → Prop} : ∀ (l : List (Nat × Nat)) (F : List Fact), (∀ p ∈ l, σ.bval p.1 = σ.bval p.2) → (∀ F', (Holds σ F' → Holds σ F) → segs σ Q gpLP F') → segsW σ Q (gpW l) F
  | [], F, _, h => h F id
  | (d, t) :: r, F, hp, h => by
    have h0 : σ.bval d = σ.bval t := hp (d, t) (List.mem_cons_self ..)
    refine ⟨⟨gpW_ob r _ (fun p hm => hp p (List.mem_cons_of_mem _ hm)) (fun F' h' => h F' (fun x => (h' x).2.2)), fun hF => ?_⟩, ⟨fun hF => ?_, gpW_ob r _ (fun p hm => hp p (List.mem_cons_of_mem _ hm)) (fun F' h' => h F' (fun x => (h' x).2.2))⟩⟩
    · have h1 : σ.bval t = false := hF.1
      have h2 : σ.bval d = true := hF.2.1
      rw [h0, h1] at h2; cases h2
    · have h1 : σ.bval t = true := hF.1
      have h2 : σ.bval d = false := hF.2.1
      rw [h0, h1] at h2; cases h2

theorem shift_bv (n : Fin 8) (r : BitVec 8) : (IntKind.u8.wrap ((BitVec.ofInt IntKind.u8.bits ((r.toNat : Int).fdiv (2 ^ (min (n.val : Int).toNat IntKind.u8.bits))) &&& BitVec.ofInt IntKind.u8.bits 1).toNat : Nat) == 1) = r.getLsbD n.val := by
  have h : ∀ n : Fin 8, ∀ i : Fin 256, (IntKind.u8.wrap ((BitVec.ofInt IntKind.u8.bits (((BitVec.ofFin (w := 8) i).toNat : Int).fdiv (2 ^ (min (n.val : Int).toNat IntKind.u8.bits))) &&& BitVec.ofInt IntKind.u8.bits 1).toNat : Nat) == 1) = (BitVec.ofFin (w := 8) i).getLsbD n.val := by decide +kernel
  exact h n r.toFin

theorem hidOf : idOf (bodyOf Try.f6) = 0 := by kernel_rfl
set_option maxRecDepth 100000 in
theorem gp_same (τ : Sig) (e : Eqs τ 8 gpBX.G) (ht : τ.tab = tabOf gpFs) (hin : InsOk τ 8 (gpK ++ ([.i .u8, .i .i8, .i .i32] : List Cl).map kindC)) : ∀ p ∈ gpDs, τ.bval p.1 = τ.bval p.2 := by
  have e13 : τ.ival 13 = IntKind.u8.wrap (τ.ival 7) := eqI (e.at 5 _ rfl rfl) rfl
  have e14 : τ.ival 14 = IntKind.u8.wrap (BitVec.ofInt IntKind.u8.bits (τ.ival 13) &&& ~~~BitVec.ofInt IntKind.u8.bits (τ.ival 3)).toNat := eqI (e.at 6 _ rfl rfl) rfl
  have w3 : IntKind.u8.wrap (τ.ival 3) = τ.ival 3 := hin 3 .u8 (by decide) rfl
  have w13 : IntKind.u8.wrap (τ.ival 13) = τ.ival 13 := by rw [e13]; simp [IntKind.wrap, IntKind.bits, IntKind.signed]
  have x14 : τ.ival 14 = ((ris (τ.ival 3) (τ.ival 13)).toNat : Int) := by rw [e14]; exact w8 _
  have e15 : τ.bval 15 = (!(τ.tab 192 [τ.ival 3, 0] == 0)) := eqB (e.at 7 _ rfl rfl) rfl
  have e16 : τ.bval 16 = (!τ.bval 15) := eqB (e.at 8 _ rfl rfl) rfl
  have e17 : τ.bval 17 = (!(τ.tab 192 [τ.ival 13, 0] == 0)) := eqB (e.at 9 _ rfl rfl) rfl
  have e18 : τ.bval 18 = (bif τ.bval 16 then τ.bval 17 else false) := eqIteB (e.at 10 _ rfl rfl) rfl rfl rfl
  have e19 : τ.ival 19 = ((τ.ival 14 : Int).fdiv (2 ^ (min (0 : Int).toNat IntKind.u8.bits))) := eqI (e.at 11 _ rfl rfl) rfl
  have e20 : τ.ival 20 = IntKind.u8.wrap (BitVec.ofInt IntKind.u8.bits (τ.ival 19) &&& BitVec.ofInt IntKind.u8.bits (1)).toNat := eqI (e.at 12 _ rfl rfl) rfl
  have e21 : τ.bval 21 = (τ.ival 20 == 1) := eqB (e.at 13 _ rfl rfl) rfl
  have d0 : τ.bval 18 = τ.bval 21 := by
    have hB : τ.bval 15 = (bv (τ.ival 3)).getLsbD 0 := by rw [e15, ht]; exact bit_bv w3 0
    have hC : τ.bval 17 = (bv (τ.ival 13)).getLsbD 0 := by rw [e17, ht]; exact bit_bv w13 0
    have hT : τ.bval 21 = (ris (τ.ival 3) (τ.ival 13)).getLsbD 0 := by rw [e21, e20, e19, x14]; exact shift_bv 0 _
    rw [hT, e18, e16, hB, hC, ris, getL_and, getL_not _ _ (by decide)]
    cases (bv (τ.ival 3)).getLsbD 0 <;> cases (bv (τ.ival 13)).getLsbD 0 <;> rfl
  have e22 : τ.bval 22 = (!(τ.tab 192 [τ.ival 3, 1] == 0)) := eqB (e.at 14 _ rfl rfl) rfl
  have e23 : τ.bval 23 = (!τ.bval 22) := eqB (e.at 15 _ rfl rfl) rfl
  have e24 : τ.bval 24 = (!(τ.tab 192 [τ.ival 13, 1] == 0)) := eqB (e.at 16 _ rfl rfl) rfl
  have e25 : τ.bval 25 = (bif τ.bval 23 then τ.bval 24 else false) := eqIteB (e.at 17 _ rfl rfl) rfl rfl rfl
  have e26 : τ.ival 26 = ((τ.ival 14 : Int).fdiv (2 ^ (min (1 : Int).toNat IntKind.u8.bits))) := eqI (e.at 18 _ rfl rfl) rfl
  have e27 : τ.ival 27 = IntKind.u8.wrap (BitVec.ofInt IntKind.u8.bits (τ.ival 26) &&& BitVec.ofInt IntKind.u8.bits (1)).toNat := eqI (e.at 19 _ rfl rfl) rfl
  have e28 : τ.bval 28 = (τ.ival 27 == 1) := eqB (e.at 20 _ rfl rfl) rfl
  have d1 : τ.bval 25 = τ.bval 28 := by
    have hB : τ.bval 22 = (bv (τ.ival 3)).getLsbD 1 := by rw [e22, ht]; exact bit_bv w3 1
    have hC : τ.bval 24 = (bv (τ.ival 13)).getLsbD 1 := by rw [e24, ht]; exact bit_bv w13 1
    have hT : τ.bval 28 = (ris (τ.ival 3) (τ.ival 13)).getLsbD 1 := by rw [e28, e27, e26, x14]; exact shift_bv 1 _
    rw [hT, e25, e23, hB, hC, ris, getL_and, getL_not _ _ (by decide)]
    cases (bv (τ.ival 3)).getLsbD 1 <;> cases (bv (τ.ival 13)).getLsbD 1 <;> rfl
  have e29 : τ.bval 29 = (!(τ.tab 192 [τ.ival 3, 2] == 0)) := eqB (e.at 21 _ rfl rfl) rfl
  have e30 : τ.bval 30 = (!τ.bval 29) := eqB (e.at 22 _ rfl rfl) rfl
  have e31 : τ.bval 31 = (!(τ.tab 192 [τ.ival 13, 2] == 0)) := eqB (e.at 23 _ rfl rfl) rfl
  have e32 : τ.bval 32 = (bif τ.bval 30 then τ.bval 31 else false) := eqIteB (e.at 24 _ rfl rfl) rfl rfl rfl
  have e33 : τ.ival 33 = ((τ.ival 14 : Int).fdiv (2 ^ (min (2 : Int).toNat IntKind.u8.bits))) := eqI (e.at 25 _ rfl rfl) rfl
  have e34 : τ.ival 34 = IntKind.u8.wrap (BitVec.ofInt IntKind.u8.bits (τ.ival 33) &&& BitVec.ofInt IntKind.u8.bits (1)).toNat := eqI (e.at 26 _ rfl rfl) rfl
  have e35 : τ.bval 35 = (τ.ival 34 == 1) := eqB (e.at 27 _ rfl rfl) rfl
  have d2 : τ.bval 32 = τ.bval 35 := by
    have hB : τ.bval 29 = (bv (τ.ival 3)).getLsbD 2 := by rw [e29, ht]; exact bit_bv w3 2
    have hC : τ.bval 31 = (bv (τ.ival 13)).getLsbD 2 := by rw [e31, ht]; exact bit_bv w13 2
    have hT : τ.bval 35 = (ris (τ.ival 3) (τ.ival 13)).getLsbD 2 := by rw [e35, e34, e33, x14]; exact shift_bv 2 _
    rw [hT, e32, e30, hB, hC, ris, getL_and, getL_not _ _ (by decide)]
    cases (bv (τ.ival 3)).getLsbD 2 <;> cases (bv (τ.ival 13)).getLsbD 2 <;> rfl
  have e36 : τ.bval 36 = (!(τ.tab 192 [τ.ival 3, 3] == 0)) := eqB (e.at 28 _ rfl rfl) rfl
  have e37 : τ.bval 37 = (!τ.bval 36) := eqB (e.at 29 _ rfl rfl) rfl
  have e38 : τ.bval 38 = (!(τ.tab 192 [τ.ival 13, 3] == 0)) := eqB (e.at 30 _ rfl rfl) rfl
  have e39 : τ.bval 39 = (bif τ.bval 37 then τ.bval 38 else false) := eqIteB (e.at 31 _ rfl rfl) rfl rfl rfl
  have e40 : τ.ival 40 = ((τ.ival 14 : Int).fdiv (2 ^ (min (3 : Int).toNat IntKind.u8.bits))) := eqI (e.at 32 _ rfl rfl) rfl
  have e41 : τ.ival 41 = IntKind.u8.wrap (BitVec.ofInt IntKind.u8.bits (τ.ival 40) &&& BitVec.ofInt IntKind.u8.bits (1)).toNat := eqI (e.at 33 _ rfl rfl) rfl
  have e42 : τ.bval 42 = (τ.ival 41 == 1) := eqB (e.at 34 _ rfl rfl) rfl
  have d3 : τ.bval 39 = τ.bval 42 := by
    have hB : τ.bval 36 = (bv (τ.ival 3)).getLsbD 3 := by rw [e36, ht]; exact bit_bv w3 3
    have hC : τ.bval 38 = (bv (τ.ival 13)).getLsbD 3 := by rw [e38, ht]; exact bit_bv w13 3
    have hT : τ.bval 42 = (ris (τ.ival 3) (τ.ival 13)).getLsbD 3 := by rw [e42, e41, e40, x14]; exact shift_bv 3 _
    rw [hT, e39, e37, hB, hC, ris, getL_and, getL_not _ _ (by decide)]
    cases (bv (τ.ival 3)).getLsbD 3 <;> cases (bv (τ.ival 13)).getLsbD 3 <;> rfl
  have e43 : τ.bval 43 = (!(τ.tab 192 [τ.ival 3, 4] == 0)) := eqB (e.at 35 _ rfl rfl) rfl
  have e44 : τ.bval 44 = (!τ.bval 43) := eqB (e.at 36 _ rfl rfl) rfl
  have e45 : τ.bval 45 = (!(τ.tab 192 [τ.ival 13, 4] == 0)) := eqB (e.at 37 _ rfl rfl) rfl
  have e46 : τ.bval 46 = (bif τ.bval 44 then τ.bval 45 else false) := eqIteB (e.at 38 _ rfl rfl) rfl rfl rfl
  have e47 : τ.ival 47 = ((τ.ival 14 : Int).fdiv (2 ^ (min (4 : Int).toNat IntKind.u8.bits))) := eqI (e.at 39 _ rfl rfl) rfl
  have e48 : τ.ival 48 = IntKind.u8.wrap (BitVec.ofInt IntKind.u8.bits (τ.ival 47) &&& BitVec.ofInt IntKind.u8.bits (1)).toNat := eqI (e.at 40 _ rfl rfl) rfl
  have e49 : τ.bval 49 = (τ.ival 48 == 1) := eqB (e.at 41 _ rfl rfl) rfl
  have d4 : τ.bval 46 = τ.bval 49 := by
    have hB : τ.bval 43 = (bv (τ.ival 3)).getLsbD 4 := by rw [e43, ht]; exact bit_bv w3 4
    have hC : τ.bval 45 = (bv (τ.ival 13)).getLsbD 4 := by rw [e45, ht]; exact bit_bv w13 4
    have hT : τ.bval 49 = (ris (τ.ival 3) (τ.ival 13)).getLsbD 4 := by rw [e49, e48, e47, x14]; exact shift_bv 4 _
    rw [hT, e46, e44, hB, hC, ris, getL_and, getL_not _ _ (by decide)]
    cases (bv (τ.ival 3)).getLsbD 4 <;> cases (bv (τ.ival 13)).getLsbD 4 <;> rfl
  have e50 : τ.bval 50 = (!(τ.tab 192 [τ.ival 3, 5] == 0)) := eqB (e.at 42 _ rfl rfl) rfl
  have e51 : τ.bval 51 = (!τ.bval 50) := eqB (e.at 43 _ rfl rfl) rfl
  have e52 : τ.bval 52 = (!(τ.tab 192 [τ.ival 13, 5] == 0)) := eqB (e.at 44 _ rfl rfl) rfl
  have e53 : τ.bval 53 = (bif τ.bval 51 then τ.bval 52 else false) := eqIteB (e.at 45 _ rfl rfl) rfl rfl rfl
  have e54 : τ.ival 54 = ((τ.ival 14 : Int).fdiv (2 ^ (min (5 : Int).toNat IntKind.u8.bits))) := eqI (e.at 46 _ rfl rfl) rfl
  have e55 : τ.ival 55 = IntKind.u8.wrap (BitVec.ofInt IntKind.u8.bits (τ.ival 54) &&& BitVec.ofInt IntKind.u8.bits (1)).toNat := eqI (e.at 47 _ rfl rfl) rfl
  have e56 : τ.bval 56 = (τ.ival 55 == 1) := eqB (e.at 48 _ rfl rfl) rfl
  have d5 : τ.bval 53 = τ.bval 56 := by
    have hB : τ.bval 50 = (bv (τ.ival 3)).getLsbD 5 := by rw [e50, ht]; exact bit_bv w3 5
    have hC : τ.bval 52 = (bv (τ.ival 13)).getLsbD 5 := by rw [e52, ht]; exact bit_bv w13 5
    have hT : τ.bval 56 = (ris (τ.ival 3) (τ.ival 13)).getLsbD 5 := by rw [e56, e55, e54, x14]; exact shift_bv 5 _
    rw [hT, e53, e51, hB, hC, ris, getL_and, getL_not _ _ (by decide)]
    cases (bv (τ.ival 3)).getLsbD 5 <;> cases (bv (τ.ival 13)).getLsbD 5 <;> rfl
  have e57 : τ.bval 57 = (!(τ.tab 192 [τ.ival 3, 6] == 0)) := eqB (e.at 49 _ rfl rfl) rfl
  have e58 : τ.bval 58 = (!τ.bval 57) := eqB (e.at 50 _ rfl rfl) rfl
  have e59 : τ.bval 59 = (!(τ.tab 192 [τ.ival 13, 6] == 0)) := eqB (e.at 51 _ rfl rfl) rfl
  have e60 : τ.bval 60 = (bif τ.bval 58 then τ.bval 59 else false) := eqIteB (e.at 52 _ rfl rfl) rfl rfl rfl
  have e61 : τ.ival 61 = ((τ.ival 14 : Int).fdiv (2 ^ (min (6 : Int).toNat IntKind.u8.bits))) := eqI (e.at 53 _ rfl rfl) rfl
  have e62 : τ.ival 62 = IntKind.u8.wrap (BitVec.ofInt IntKind.u8.bits (τ.ival 61) &&& BitVec.ofInt IntKind.u8.bits (1)).toNat := eqI (e.at 54 _ rfl rfl) rfl
  have e63 : τ.bval 63 = (τ.ival 62 == 1) := eqB (e.at 55 _ rfl rfl) rfl
  have d6 : τ.bval 60 = τ.bval 63 := by
    have hB : τ.bval 57 = (bv (τ.ival 3)).getLsbD 6 := by rw [e57, ht]; exact bit_bv w3 6
    have hC : τ.bval 59 = (bv (τ.ival 13)).getLsbD 6 := by rw [e59, ht]; exact bit_bv w13 6
    have hT : τ.bval 63 = (ris (τ.ival 3) (τ.ival 13)).getLsbD 6 := by rw [e63, e62, e61, x14]; exact shift_bv 6 _
    rw [hT, e60, e58, hB, hC, ris, getL_and, getL_not _ _ (by decide)]
    cases (bv (τ.ival 3)).getLsbD 6 <;> cases (bv (τ.ival 13)).getLsbD 6 <;> rfl
  have e64 : τ.bval 64 = (!(τ.tab 192 [τ.ival 3, 7] == 0)) := eqB (e.at 56 _ rfl rfl) rfl
  have e65 : τ.bval 65 = (!τ.bval 64) := eqB (e.at 57 _ rfl rfl) rfl
  have e66 : τ.bval 66 = (!(τ.tab 192 [τ.ival 13, 7] == 0)) := eqB (e.at 58 _ rfl rfl) rfl
  have e67 : τ.bval 67 = (bif τ.bval 65 then τ.bval 66 else false) := eqIteB (e.at 59 _ rfl rfl) rfl rfl rfl
  have e68 : τ.ival 68 = ((τ.ival 14 : Int).fdiv (2 ^ (min (7 : Int).toNat IntKind.u8.bits))) := eqI (e.at 60 _ rfl rfl) rfl
  have e69 : τ.ival 69 = IntKind.u8.wrap (BitVec.ofInt IntKind.u8.bits (τ.ival 68) &&& BitVec.ofInt IntKind.u8.bits (1)).toNat := eqI (e.at 61 _ rfl rfl) rfl
  have e70 : τ.bval 70 = (τ.ival 69 == 1) := eqB (e.at 62 _ rfl rfl) rfl
  have d7 : τ.bval 67 = τ.bval 70 := by
    have hB : τ.bval 64 = (bv (τ.ival 3)).getLsbD 7 := by rw [e64, ht]; exact bit_bv w3 7
    have hC : τ.bval 66 = (bv (τ.ival 13)).getLsbD 7 := by rw [e66, ht]; exact bit_bv w13 7
    have hT : τ.bval 70 = (ris (τ.ival 3) (τ.ival 13)).getLsbD 7 := by rw [e70, e69, e68, x14]; exact shift_bv 7 _
    rw [hT, e67, e65, hB, hC, ris, getL_and, getL_not _ _ (by decide)]
    cases (bv (τ.ival 3)).getLsbD 7 <;> cases (bv (τ.ival 13)).getLsbD 7 <;> rfl
  intro p hp
  simp only [gpDs, List.mem_cons, List.not_mem_nil, or_false] at hp
  rcases hp with rfl | rfl | rfl | rfl | rfl | rfl | rfl | rfl
  · exact d0
  · exact d1
  · exact d2
  · exact d3
  · exact d4
  · exact d5
  · exact d6
  · exact d7
set_option maxRecDepth 100000 in
theorem gpB_ob (τ : Sig) (e : Eqs τ 8 gpBX.G) (ht : τ.tab = tabOf gpFs) (hin : InsOk τ 8 (gpK ++ ([.i .u8, .i .i8, .i .i32] : List Cl).map kindC)) (h0 : 0 ≤ τ.ival 0) (h01 : τ.ival 0 ≤ τ.ival 1) (hlen : τ.ival 1 ≤ 9223372036854775807) :
    segsW τ (fun x s σ2 => (x = .normal ∧ s = gpS1 ∧ τ.ival 0 < τ.ival 1 ∧ σ2.ival 0 = τ.ival 0 + 1 ∧ σ2.ival 1 = τ.ival 1 ∧ InsOk σ2 5 gpK ∧ True ∧ σ2.tab = tabOf gpFs ∧ σ2.ext = τ.ext) ∨ (x = .exit (idOf (bodyOf Try.f6)) ∧ s = gpS2 ∧ InsOk σ2 0 [] ∧ True ∧ σ2.tab = tabOf gpFs)) gpBW [] := by
  have e8 : τ.bval 8 = decide (τ.ival 0 < τ.ival 1) := eqB (e.at 0 _ rfl rfl) rfl
  have e10 : τ.bval 10 = decide (0 ≤ τ.ival 0) := eqB (e.at 2 _ rfl rfl) rfl
  have e93 : τ.ival 93 = IntKind.i64.wrap (τ.ival 0 + 1) := eqI (e.at 85 _ rfl rfl) rfl
  refine ⟨⟨⟨⟨fun hF => ?_, gpW_ob gpDs _ (gp_same τ e ht hin) (fun F' hF' => fun hF => ?_)⟩, fun hF => ?_⟩, fun hF => ?_⟩, fun hF => ?_⟩
  · have h8 : τ.bval 8 = true := hF.2.2.2.1
    rw [e8, decide_eq_true_eq] at h8
    refine .inl ⟨rfl, rfl, h8, ?_, rfl, insOk_asg e hin 12 (by kernel_rfl), trivial, ht, rfl⟩
    show τ.ival 93 = τ.ival 0 + 1
    rw [e93]
    simp [IntKind.wrap, IntKind.bits, IntKind.signed]; omega
  · have h8 : τ.bval 8 = true := (hF' hF).2.2.2.1
    rw [e8, decide_eq_true_eq] at h8
    refine .inl ⟨rfl, rfl, h8, ?_, rfl, insOk_asg e hin 12 (by kernel_rfl), trivial, ht, rfl⟩
    show τ.ival 93 = τ.ival 0 + 1
    rw [e93]
    simp [IntKind.wrap, IntKind.bits, IntKind.signed]; omega
  · have h : τ.bval 10 = false := hF.1
    rw [e10, decide_eq_false_iff_not] at h
    exact h h0
  · exact .inr ⟨congrArg SEx.exit hidOf.symm, rfl, fun i k hi _ => absurd hi (by omega), trivial, ht⟩
  · exact .inr ⟨congrArg SEx.exit hidOf.symm, rfl, fun i k hi _ => absurd hi (by omega), trivial, ht⟩

theorem walk (W : World) (n0 : Int) (i0 : InR [.i .u8] [n0]) (n1 : Int) (i1 : InR [.i .u8] [n1]) (v2 : Value) (X2 : Fz) (r2 : RowV W [.i .u8, .i .i8, .i .i32] v2 X2) :
    Calls Try.prog 6 #[encC (.i .u8) n0, encC (.i .u8) n1, v2] W fun e W' => e = .returned (.bool true) ∧ Below W.heap.size W W' :=
  rows_walkG (q := 5) (k := 2) (n := 139) (ss := gpSs) (insq := gpK) (ins2 := []) (S0 := gpS0) (S1 := gpS1) (S2 := gpS2) (SE := gpSE) (J := fun _ _ => True) (K := fun _ _ => True) (vs := [.symb 0]) (l := [n0, n1])
    mixed Try.func6 (by kernel_rfl) (by kernel_rfl) (by kernel_rfl) rfl (by decide) rfl rfl (fun l => by simp [gpSs, encS]) (by kernel_rfl) (by kernel_rfl)
    gpA_seg ⟨rfl, rfl, rfl⟩ gpB_seg ⟨rfl, rfl, rfl⟩ gpC_seg ⟨rfl, rfl⟩ (fun _ _ _ _ h => h) (fun _ _ _ _ h => h)
    (fun l τ hl e ht hin hi _ => ⟨rfl, rfl, rfl, rfl, insOk_asg e hin 12 (by kernel_rfl), trivial, ht, rfl⟩)
    (fun l τ hl e ht hin h0 h01 hlen _ => gpB_ob τ e ht hin h0 h01 hlen)
    (fun l τ hl e ht hin _ _ => ⟨.inl rfl, rfl, rfl, trivial⟩)
    r2 ⟨i0.1, i1.1, rfl⟩

section
variable {H : Type} {enc : TypeId × Value → H} {P : Program}
theorem post_of_below {f : Func} {s : ChangeSpec} {apart fresh handsOn again : Bool} {W W' : World} {args : Array Value} {v : Value} {ds gs : List (DataW H)} {before pa pv : List MemPlace}
    (hW : DataW.Whole enc P f.params.toList s.vars apart W args.toList ds gs before)
    (hres : ∀ (b : Nat) (sp : Nat → Bool) (hd : Bool), DataW.TrodAll enc P W' b sp hd f.resultTypes.toList (v.resultList f.resultTypes.size) (s.fn H (ds ++ gs)).results [])
    (hargs : ∀ sp : Nat → Bool, (∀ p ∈ before, sp p.block = true) → DataW.TrodAll enc P W' 0 sp true f.params.toList args.toList (s.fn H (ds ++ gs)).args pa)
    (hvars : ∀ sp : Nat → Bool, (∀ p ∈ before, sp p.block = true) → DataW.TrodVars enc P W' sp s.vars (s.fn H (ds ++ gs)).vars pv)
    (hps : before = pa ++ pv) (hb : Below W.heap.size W W')
    (hok : ∀ (j : Nat) (t : TypeId) (r : Value), f.resultTypes[j]? = some t → (v.resultList f.resultTypes.size)[j]? = some r → Value.okWide P W' .any 0 t r) :
    s.post enc P f apart fresh handsOn again W args v W' := by
  have hlt : ∀ p ∈ before, p.block < W.heap.size := fun p hp => hW.lt p hp
  have hold : ∀ p ∈ before, (fun b => decide (b < W.heap.size)) p.block = true := fun p hp => by simpa using hlt p hp
  refine ⟨ds, gs, before, [], pa, pv, hW, hres _ _ _, hargs _ hold, hvars _ hold, World.keptBut_mono (fun p hp => ⟨hp, ?_⟩) (hb.frame (· ∈ before)), fun _ => ?_⟩
  · rw [hps, List.mem_append] at hp
    exact Or.inr hp
  · obtain ⟨_, _, _, _, _, hz, hn⟩ := hW
    refine ⟨hok, _, _, ([] ++ pa) ++ pv, ⟨[] ++ pa, pv, trodAll_append (hargs _ (fun _ _ => rfl)) (hres _ _ _), hvars _ (fun _ _ => rfl), rfl, ?_, ?_⟩, ?_⟩
    · intro b off hp
      have hin : MemPlace.cell b off ∈ before := by rw [hps]; simpa using hp
      rw [hb.frozen (hlt _ hin)]
      exact hz b off hin
    · intro ha
      have := hn ha
      rw [hps] at this
      simpa using this
    · intro p hp _
      rw [hps]
      simpa using hp
end


theorem agg5 : Ev.isAgg Try.prog 5 = false := by kernel_rfl
theorem flat5 : flat Try.prog 4 5 = some [.i .u8] := by kernel_rfl
theorem size48 : Nat.beq (Try.prog.cellsOf 48) ([.i .u8, .i .i8, .i .i32] : List Cl).length = true := by kernel_rfl
theorem flat48 : flat Try.prog 4 48 = some [.i .u8, .i .i8, .i .i32] := by kernel_rfl

set_option maxRecDepth 100000 in
theorem lifted (os : Os) (started : os.Started) (H : Type) (enc : TypeId × Value → H) :
    ReturnsInHanded {} Try.checked os 6 .any (Rows.gpioPlaysSpec.pre6 enc Try.prog Try.f6 Rows.gpioPlaysRow.domain false) (Rows.gpioPlaysSpec.post enc Try.prog Try.f6 false true false false) := by
  refine returnsInHanded_of_change (C := Try.checked) own started (by kernel_rfl) Try.func6
    (ChangeSpec.witness6 (enc := enc) (C := Try.checked) false ⟨#[], #[.int .u8 0, .int .u8 0, .slice none 0 0], []⟩ 8 (by kernel_rfl) (by kernel_rfl) (by kernel_rfl) (by kernel_rfl)) ?_
  intro W base args ds gs before hval0 hW hcnd _
  have hval : ∀ (j : Nat) t v, Try.f6.params[j]? = some t → args[j]? = some v → Value.okWide Try.prog W .any base t v := hval0
  have hW' := hW
  obtain ⟨p, q, hA0, hV, rfl, hfz, hnd⟩ := hW
  have hA : DataW.TrodAll enc Try.prog W 0 (fun _ => true) true Try.f6.params.toList args.toList ds p := hA0
  rw [Try.params6] at hA hval
  obtain ⟨v0, vs0, d0, ds0, p0, q0, hargs, rfl, rfl, h0, r0⟩ := trodAll_cons hA
  obtain ⟨v1, vs1, d1, ds1, p1, q1, rfl, rfl, rfl, h1, r1⟩ := trodAll_cons r0
  obtain ⟨v2, vs2, d2, ds2, p2, q2, rfl, rfl, rfl, h2, r2⟩ := trodAll_cons r1
  obtain ⟨rfl, rfl, rfl⟩ := trodAll_nil r2
  obtain rfl : args = #[v0, v1, v2] := by cases args; simp_all
  obtain ⟨rfl, rfl⟩ := trodVars_none hV
  obtain ⟨n0, i0, rfl, rfl⟩ := open_one flat5 agg5 (hval 0 5 v0 rfl rfl) h0
  obtain ⟨n1, i1, rfl, rfl⟩ := open_one flat5 agg5 (hval 1 5 v1 rfl rfl) h1
  obtain ⟨X2, R2⟩ := open_rows (cl := [.i .u8, .i .i8, .i .i32]) Try.underlying42 flat48 size48 rfl (hval 2 42 v2 rfl rfl) h2
  clear hA0 hval0
  simp only [List.append_nil] at hW'
  refine (walk W n0 i0 n1 i1 v2 X2 R2.row).mono fun e W' ⟨he, hg⟩ => ?_
  subst he
  exact ⟨_, rfl, post_of_below (pa := [] ++ ([] ++ (p2 ++ ([])))) (pv := []) hW' (fun _ _ _ => (trodAll_cons_mk (shut_bool Try.underlying4 _) trodAll_mk0)) (fun sp hsp => (trodAll_cons_mk (shut_flat flat5 h0) (trodAll_cons_mk (shut_flat flat5 h1) (trodAll_cons_mk (R2.again W' hg sp (fun z hz => hsp z (by simp [hz]))) trodAll_mk0)))) (fun _ _ => rfl) (by simp)
    hg (ok_one (by kernel_rfl) rfl (okWide_bool_mk Try.underlying4 _))⟩

theorem over : Rows.gpioPlaysRow.holds Try.pinned (OpenSpec.ofChange Rows.gpioPlaysSpec) :=
  OpenClaim.holds_of_wide 6 Try.f6 rfl rfl rfl rfl rfl rfl rfl ⟨rfl, rfl, rfl, rfl, rfl⟩ rfl rfl rfl rfl rfl (by kernel_rfl) Try.func6 (by kernel_rfl)
    (of_decide_eq_true (by kernel_rfl)) (by unfold Func.isWrapper; first | (rw [if_pos (by decide +kernel)]; kernel_rfl) | (rw [if_neg (by decide +kernel)]; exact ⟨rfl, rfl⟩))
    (fun os started H enc _ => lifted os started H enc)

/-- THE STATEMENT -/
theorem proved : Rows.GpioPlaysSaid :=
  over
#print axioms proved
end Go.Proofs.Ytgifnmiggloclaa.gpioPlays
