/-
  ploverlaw27.RecordKnown is true: a law without arguments, reckoned in the kernel by the proved evaluator (texts YtlhaklmnjdgjgacGreatEw..).
  No conditions.
-/
import Derived.Test.YtlhaklmnjdgjgacGreatRows
import Derived.WalkKit
import Derived.ProofKit
import Derived.OpenShut
import Derived.Below
import Derived.ChangeSame
import Derived.Laws.Externs
import Derived.Laws.LoneSync
import Derived.Test.YtlhaklmnjdgjgacGreatRkl
import Derived.Test.YtlhaklmnjdgjgacGreatRja
import Derived.Test.YtlhaklmnjdgjgacGreatRjb
import Derived.Test.YtlhaklmnjdgjgacGreatRjc
import Derived.Test.YtlhaklmnjdgjgacGreatRjd
import Derived.Test.YtlhaklmnjdgjgacGreatRje
import Derived.Test.YtlhaklmnjdgjgacGreatRjf
namespace Go.Proofs.YtlhaklmnjdgjgacGreat.recordKnown
open Go.ChangeShapes Go.WideShapes Go.ChangeAt Go.RowKit
set_option linter.unusedVariables false      -- a walk need not use every 'w<i>' (that an integer argument fits its kind)

theorem closed : joinedFacts Tryz.prog 3 Tryz.f3 Rows.recordKnownSpec Rows.recordKnownRow = true := by
  unfold joinedFacts
  simp only [Bool.and_eq_true]
  repeat' apply And.intro
  all_goals first | with_reducible exact jIn | with_reducible exact jUnf | with_reducible exact jRec | with_reducible exact jNamed | with_reducible exact jLaid | with_reducible exact jMaps | with_reducible exact jKeys | with_reducible exact jHeard | with_reducible exact jMay | kernel_rfl

theorem over : Rows.recordKnownRow.holds Tryz.pinned (OpenSpec.ofChange Rows.recordKnownSpec) :=
  OpenClaim.holds_of_wide 3 Tryz.f3 rfl rfl rfl rfl rfl rfl rfl ⟨rfl, rfl, rfl, rfl, rfl⟩ rfl rfl rfl rfl rfl (by kernel_rfl) Tryz.func3 closed
    (of_decide_eq_true (by kernel_rfl)) (by unfold Func.isWrapper; first | (rw [if_pos (by decide +kernel)]; kernel_rfl) | (rw [if_neg (by decide +kernel)]; exact ⟨rfl, rfl⟩))
    (fun os started H enc _ => lifted os started H enc)

/-- ████ THE STATEMENT ████ -/
theorem proved : Rows.RecordKnownSaid :=
  over
#print axioms proved
end Go.Proofs.YtlhaklmnjdgjgacGreat.recordKnown
