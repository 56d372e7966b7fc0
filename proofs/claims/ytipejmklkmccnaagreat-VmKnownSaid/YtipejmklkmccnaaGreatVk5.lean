/- Calls over literal memory of ploverlaw24.VmKnown, reckoned in the kernel: part 5. -/
import Derived.Test.YtipejmklkmccnaaGreatRows
import Derived.WalkKit
import Derived.ProofKit
import Derived.OpenShut
import Derived.Below
import Derived.ChangeSame
import Derived.Laws.Externs
import Derived.Laws.LoneSync
import Derived.Test.YtipejmklkmccnaaGreatVka
namespace Go.Proofs.YtipejmklkmccnaaGreat.vmKnown
open Go.ChangeShapes Go.WideShapes Go.ChangeAt Go.RowKit
set_option linter.unusedVariables false

section
open Go.Ev
set_option linter.unusedSimpArgs false
set_option maxRecDepth 100000 in
def g46 : List (MemF × Bm) := [(⟨8, [], [], .bool true, []⟩, [])]
theorem k46 : AllT (fstsF g46) := batch ([]) (AllF.nil) g46 (by kernel_rfl)
end
end Go.Proofs.YtipejmklkmccnaaGreat.vmKnown
