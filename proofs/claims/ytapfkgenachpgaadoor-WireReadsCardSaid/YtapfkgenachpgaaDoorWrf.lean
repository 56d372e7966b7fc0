/-
  WireReads: the round of its loop, reckoned.
  No conditions.
-/
import Derived.Test.YtapfkgenachpgaaDoorChecked
import Derived.WalkKit
import Derived.Below
import Derived.ChangeSame
import Derived.Test.YtapfkgenachpgaaDoorFa
import Derived.Test.YtapfkgenachpgaaDoorWn
namespace Go.Proofs.YtapfkgenachpgaaDoor.wr
open Go.RowKit
open Go.Ev Go.Proofs.YtapfkgenachpgaaDoor.fa Go.Proofs.YtapfkgenachpgaaDoor.wn
set_option linter.unusedVariables false
set_option linter.unusedSimpArgs false

/-! ### The chapter's examples -/
noncomputable def ing : Ing := { m := 0, G := [], T := .e, mh := asMh Tryd.prog 45 74 76 46 40, inv := OwnInv 0 isErr }
theorem hooks (F : List Fact) : Hooks Tryd.prog (cxOf ing F) :=
  ⟨fun f args v h => by simp only [ing, cxOf, noHook, reduceCtorEq] at h, fun f args hp v hp' h => as_mem (X := ing) rfl rfl as_ok is_ok (fun _ h => h) F f args hp v hp' h, fun f k h => by simp only [ing, cxOf, reduceCtorEq] at h, fun k b h => by simp only [ing, cxOf, List.not_mem_nil] at h⟩
theorem works_run : isTrue ((evD Tryd.prog (cxOf ing) true 1000 40).1 [] 8 [] ⟨[], []⟩) = true := by kernel_rfl
theorem works_own (w : World) (O : Obj) (hO : isErr O) (hw : w.heap[0]? = some O) : Calls Tryd.prog 8 #[] w fun e w' => e = .returned (.bool true) ∧ Below w.heap.size w w' := by
  have hY : FzOk (errRow O) w := by
    obtain ⟨C, t, fr, rfl, hC⟩ := hO
    exact ⟨C, t, fr, hw, fun m j hm hj => absurd hj (Nat.not_lt_zero j), fun o ho => by cases ho; exact hw⟩
  exact closed_own (Y := errRow O) ⟨rfl, rfl, rfl, rfl, rfl, rfl⟩ (fun σ he => own_inv (r := 0) hO (by rw [he]; rfl)) (hm := mixed) (hh := hooks) (h := works_run) (w := w) (hY := hY)

end Go.Proofs.YtapfkgenachpgaaDoor.wr
