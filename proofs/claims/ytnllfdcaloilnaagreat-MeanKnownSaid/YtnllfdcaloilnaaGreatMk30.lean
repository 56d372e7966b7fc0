/- Calls over literal memory of ploverlaw17.MeanKnown, reckoned in the kernel: part 30. -/
import Derived.Test.YtnllfdcaloilnaaGreatRows
import Derived.WalkKit
import Derived.ProofKit
import Derived.OpenShut
import Derived.Below
import Derived.ChangeSame
import Derived.Laws.Externs
import Derived.Laws.LoneSync
import Derived.Test.YtnllfdcaloilnaaGreatMka
namespace Go.Proofs.YtnllfdcaloilnaaGreat.meanKnown
open Go.ChangeShapes Go.WideShapes Go.ChangeAt Go.RowKit
set_option linter.unusedVariables false

section
open Go.Ev
set_option linter.unusedSimpArgs false
set_option maxRecDepth 100000 in
def g152 : List (MemF × Bm) := [(⟨147, [.ptr 0 0], [.cells [.slice 1 0 35 35 (.some 5), .int .i64 20, .int .i64 0, .int .i64 0, .int .i64 0] 167, h233], .agg [.int .i64 8, .int .i64 58, .int .i64 1, .str ⟨#[]⟩, .str ⟨#[]⟩, .str ⟨#[]⟩, .int .i64 0, .int .i64 0, .int .i64 1, .slice 2 0 1 1 .none, .slice 3 0 1 1 (.some 12), .nilslice], [.cells [.slice 1 0 35 35 (.some 5), .int .i64 33, .int .i64 0, .int .i64 0, .int .i64 0] 167, h233, h234, .cells [.int .i64 6, .int .i64 70, .int .i64 1, .str ⟨#[]⟩, .str ⟨#[]⟩, .str ⟨#[]⟩, .int .i64 13, .int .i64 0, .int .i64 0, .slice 4 0 1 1 .none, .nilslice, .nilslice] 186, h235]⟩, [(0, 0), (1, 0), (24, 0), (49, 0), (47, 0)])]
theorem k152 : AllT (fstsF g152) := batch ([]) (AllF.nil) g152 (by kernel_rfl)
end
end Go.Proofs.YtnllfdcaloilnaaGreat.meanKnown
