/- Calls over literal memory of ploverlaw17.MeanKnown, reckoned in the kernel: part 18. -/
import Derived.Test.YtnllfdcaloilnaaGreatRows
import Derived.WalkKit
import Derived.ProofKit
import Derived.OpenShut
import Derived.Below
import Derived.ChangeSame
import Derived.Laws.Externs
import Derived.Laws.LoneSync
import Derived.Test.YtnllfdcaloilnaaGreatMka
import Derived.Test.YtnllfdcaloilnaaGreatMk17
namespace Go.Proofs.YtnllfdcaloilnaaGreat.meanKnown
open Go.ChangeShapes Go.WideShapes Go.ChangeAt Go.RowKit
set_option linter.unusedVariables false

section
open Go.Ev
set_option linter.unusedSimpArgs false
set_option maxRecDepth 100000 in
def g73 : List (MemF × Bm) := [(⟨39, [.str s3], [], .tuple [.slice 0 0 29 29 (.some 5), .agg [.int .i64 0, .int .i64 0]], [h143]⟩, [(114, 0)])]
theorem k73 : AllT (fstsF g73) := batch (fstsF g71 ++ (fstsF g72 ++ ([]))) (AllF.append k71 (AllF.append k72 (AllF.nil))) g73 (by kernel_rfl)
end
end Go.Proofs.YtnllfdcaloilnaaGreat.meanKnown
