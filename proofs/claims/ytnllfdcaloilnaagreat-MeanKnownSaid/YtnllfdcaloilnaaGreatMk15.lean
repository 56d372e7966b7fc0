/- Calls over literal memory of ploverlaw17.MeanKnown, reckoned in the kernel: part 15. -/
import Derived.Test.YtnllfdcaloilnaaGreatRows
import Derived.WalkKit
import Derived.ProofKit
import Derived.OpenShut
import Derived.Below
import Derived.ChangeSame
import Derived.Laws.Externs
import Derived.Laws.LoneSync
import Derived.Test.YtnllfdcaloilnaaGreatMka
import Derived.Test.YtnllfdcaloilnaaGreatMk14
namespace Go.Proofs.YtnllfdcaloilnaaGreat.meanKnown
open Go.ChangeShapes Go.WideShapes Go.ChangeAt Go.RowKit
set_option linter.unusedVariables false

section
open Go.Ev
set_option linter.unusedSimpArgs false
set_option maxRecDepth 100000 in
def g61 : List (MemF × Bm) := [(⟨39, [.str s2], [], .tuple [.slice 0 0 22 22 (.some 5), .agg [.int .i64 0, .int .i64 0]], [h120]⟩, [(86, 0)])]
theorem k61 : AllT (fstsF g61) := batch (fstsF g60 ++ ([])) (AllF.append k60 (AllF.nil)) g61 (by kernel_rfl)
end
end Go.Proofs.YtnllfdcaloilnaaGreat.meanKnown
