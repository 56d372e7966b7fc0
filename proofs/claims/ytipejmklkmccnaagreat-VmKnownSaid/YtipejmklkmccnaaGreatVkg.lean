/- Calls over literal memory of ploverlaw24.VmKnown, reckoned in the kernel: part 6. -/
import Derived.Test.YtipejmklkmccnaaGreatRows
import Derived.WalkKit
import Derived.ProofKit
import Derived.OpenShut
import Derived.Below
import Derived.ChangeSame
import Derived.Laws.Externs
import Derived.Laws.LoneSync
import Derived.Test.YtipejmklkmccnaaGreatVka
import Derived.Test.YtipejmklkmccnaaGreatVk1
import Derived.Test.YtipejmklkmccnaaGreatVk2
import Derived.Test.YtipejmklkmccnaaGreatVk4
import Derived.Test.YtipejmklkmccnaaGreatVk5
namespace Go.Proofs.YtipejmklkmccnaaGreat.vmKnown
open Go.ChangeShapes Go.WideShapes Go.ChangeAt Go.RowKit
set_option linter.unusedVariables false

section
open Go.Ev
set_option linter.unusedSimpArgs false
set_option maxRecDepth 100000 in
def g47 : List (MemF × Bm) := [(⟨3, [], [], .bool true, []⟩, [])]
theorem k47 : AllT (fstsF g47) := batch (fstsF g1 ++ (fstsF g2 ++ (fstsF g3 ++ (fstsF g5 ++ (fstsF g23 ++ (fstsF g45 ++ (fstsF g46 ++ ([])))))))) (AllF.append k1 (AllF.append k2 (AllF.append k3 (AllF.append k5 (AllF.append k23 (AllF.append k45 (AllF.append k46 (AllF.nil)))))))) g47 (by kernel_rfl)
end
end Go.Proofs.YtipejmklkmccnaaGreat.vmKnown
