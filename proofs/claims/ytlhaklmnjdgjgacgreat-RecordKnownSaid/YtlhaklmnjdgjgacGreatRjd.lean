/- A fact of the row's step, by itself: together they want more memory than one process has. -/
import Derived.Test.YtlhaklmnjdgjgacGreatRows
import Derived.ProofKit
import Derived.JoinedOf
namespace Go.Proofs.YtlhaklmnjdgjgacGreat.recordKnown
open Go.ChangeShapes Go.WideShapes Go.ChangeAt Go.RowKit
theorem jNamed : (Rows.recordKnownRow.named == Tryz.prog.varsNamed 3) = true := by kernel_rfl
end Go.Proofs.YtlhaklmnjdgjgacGreat.recordKnown
