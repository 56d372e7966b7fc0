/-
  ploverlaw17.MeanKnown is true: a law without arguments, reckoned in the kernel by the proved evaluator (texts YtnllfdcaloilnaaGreatEw..).
  No conditions.
-/
import Derived.Test.YtnllfdcaloilnaaGreatRows
import Derived.WalkKit
import Derived.ProofKit
import Derived.OpenShut
import Derived.Below
import Derived.ChangeSame
import Derived.Laws.Externs
import Derived.Laws.LoneSync
import Derived.Test.YtnllfdcaloilnaaGreatMkl
namespace Go.Proofs.YtnllfdcaloilnaaGreat.meanKnown
open Go.ChangeShapes Go.WideShapes Go.ChangeAt Go.RowKit
set_option linter.unusedVariables false      -- a walk need not use every 'w<i>' (that an integer argument fits its kind)

theorem over : Rows.meanKnownRow.holds Tryz.pinned (OpenSpec.ofChange Rows.meanKnownSpec) :=
  OpenClaim.holds_of_wide 3 Tryz.f3 rfl rfl rfl rfl rfl rfl rfl ⟨rfl, rfl, rfl, rfl, rfl⟩ rfl rfl rfl rfl rfl (by kernel_rfl) Tryz.func3 (by kernel_rfl)
    (of_decide_eq_true (by kernel_rfl)) (by unfold Func.isWrapper; first | (rw [if_pos (by decide +kernel)]; kernel_rfl) | (rw [if_neg (by decide +kernel)]; exact ⟨rfl, rfl⟩))
    (fun os started H enc _ => lifted os started H enc)

/-- ████ THE STATEMENT ████ -/
theorem proved : Rows.MeanKnownSaid :=
  over
#print axioms proved
end Go.Proofs.YtnllfdcaloilnaaGreat.meanKnown
