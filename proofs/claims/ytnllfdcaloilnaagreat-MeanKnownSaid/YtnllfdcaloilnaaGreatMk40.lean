/- Calls over literal memory of ploverlaw17.MeanKnown, reckoned in the kernel: part 40. -/
import Derived.Test.YtnllfdcaloilnaaGreatRows
import Derived.WalkKit
import Derived.ProofKit
import Derived.OpenShut
import Derived.Below
import Derived.ChangeSame
import Derived.Laws.Externs
import Derived.Laws.LoneSync
import Derived.Test.YtnllfdcaloilnaaGreatMka
import Derived.Test.YtnllfdcaloilnaaGreatMk39
namespace Go.Proofs.YtnllfdcaloilnaaGreat.meanKnown
open Go.ChangeShapes Go.WideShapes Go.ChangeAt Go.RowKit
set_option linter.unusedVariables false

section
open Go.Ev
set_option linter.unusedSimpArgs false
set_option maxRecDepth 100000 in
def g203 : List (MemF × Bm) := [(⟨39, [.str s9], [], .tuple [.slice 0 0 16 16 (.some 5), .agg [.int .i64 0, .int .i64 0]], [h313]⟩, [(62, 0)])]
theorem k203 : AllT (fstsF g203) := batch (fstsF g202 ++ ([])) (AllF.append k202 (AllF.nil)) g203 (by kernel_rfl)
set_option maxRecDepth 100000 in
def g204 : List (MemF × Bm) := [(⟨72, [.ptr 0 0, .ptr 1 0], [.cells [.slice 2 0 16 16 (.some 5), .int .i64 0, .int .i64 0, .int .i64 0, .int .i64 0] 167, .cells [.nilslice, .nilslice, .nilslice] 71, h313], .tuple [], [.cells [.slice 2 0 16 16 (.some 5), .int .i64 15, .int .i64 0, .int .i64 0, .int .i64 0] 167, .cells [.nilslice, .nilslice, .slice 3 0 1 1 (.some 9)] 71, h313, h264, .cells [.int .i64 0, .int .i64 12, .int .i64 1, .str ⟨#[120]⟩, .str ⟨#[]⟩, .str ⟨#[]⟩, .int .i64 0, .int .i64 1, .int .i64 0, .slice 5 0 1 1 .none, .nilslice, .nilslice] 186, .cells [.int .i64 10, .int .i64 27, .str ⟨#[]⟩, .str ⟨#[]⟩, .int .i64 0, .int .i64 0, .int .i64 0, .slice 6 0 2 2 .none] 150, .cells [.int .i64 0, .int .i64 25, .str ⟨#[]⟩, .str ⟨#[]⟩, .int .i64 1, .int .i64 0, .int .i64 0, .nilslice, .int .i64 0, .int .i64 29, .str ⟨#[]⟩, .str ⟨#[]⟩, .int .i64 0, .int .i64 0, .int .i64 0, .nilslice] 150]⟩, [(0, 0), (1, 0), (2, 0), (34, 0), (32, 0), (30, 0), (23, 0)])]
theorem k204 : AllT (fstsF g204) := batch ([]) (AllF.nil) g204 (by kernel_rfl)
end
end Go.Proofs.YtnllfdcaloilnaaGreat.meanKnown
