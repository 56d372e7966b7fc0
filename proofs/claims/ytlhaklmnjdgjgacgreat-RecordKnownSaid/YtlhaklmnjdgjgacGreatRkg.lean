/- Calls over literal memory of ploverlaw27.RecordKnown, each reckoned once in the kernel: entries 41 to 41. -/
import Derived.Test.YtlhaklmnjdgjgacGreatRows
import Derived.WalkKit
import Derived.ProofKit
import Derived.OpenShut
import Derived.Below
import Derived.ChangeSame
import Derived.Laws.Externs
import Derived.Laws.LoneSync
import Derived.Test.YtlhaklmnjdgjgacGreatRkf
namespace Go.Proofs.YtlhaklmnjdgjgacGreat.recordKnown
open Go.ChangeShapes Go.WideShapes Go.ChangeAt Go.RowKit
set_option linter.unusedVariables false

section
open Go.Ev
set_option linter.unusedSimpArgs false
set_option maxRecDepth 100000 in
def mf41 : MemF := ⟨3, [], [], .bool true, []⟩
def bf41 : Bm := []
theorem run41 : isMemF mf41 bf41 ((evD Tryz.prog (cxOf (ing tb41)) true 1000 40).1 [] mf41.f mf41.args ⟨mf41.pre, []⟩) = true := by kernel_rfl
theorem ok41 : MemFOk Tryz.prog (ing []).tab mf41 := closed_memF (X := ing tb41) bf41 ⟨rfl, rfl, rfl, rfl, rfl, rfl⟩ (fun _ h => h) mixed (hooks tb41 all41) (by kernel_rfl) run41
end
end Go.Proofs.YtlhaklmnjdgjgacGreat.recordKnown
