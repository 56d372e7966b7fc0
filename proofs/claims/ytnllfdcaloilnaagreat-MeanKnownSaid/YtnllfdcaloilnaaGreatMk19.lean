/- Calls over literal memory of ploverlaw17.MeanKnown, reckoned in the kernel: part 19. -/
import Derived.Test.YtnllfdcaloilnaaGreatRows
import Derived.WalkKit
import Derived.ProofKit
import Derived.OpenShut
import Derived.Below
import Derived.ChangeSame
import Derived.Laws.Externs
import Derived.Laws.LoneSync
import Derived.Test.YtnllfdcaloilnaaGreatMka
namespace Go.Proofs.YtnllfdcaloilnaaGreat.meanKnown
open Go.ChangeShapes Go.WideShapes Go.ChangeAt Go.RowKit
set_option linter.unusedVariables false

section
open Go.Ev
set_option linter.unusedSimpArgs false
set_option maxRecDepth 100000 in
def g74 : List (MemF × Bm) := [(⟨147, [.ptr 0 0], [.cells [.slice 1 0 29 29 (.some 5), .int .i64 13, .int .i64 0, .int .i64 0, .int .i64 0] 167, h143], .agg [.int .i64 2, .int .i64 27, .int .i64 1, .str ⟨#[104]⟩, .str ⟨#[]⟩, .str ⟨#[]⟩, .int .i64 0, .int .i64 0, .int .i64 0, .slice 2 0 2 2 (.some 8), .nilslice, .nilslice], [.cells [.slice 1 0 29 29 (.some 5), .int .i64 27, .int .i64 0, .int .i64 0, .int .i64 0] 167, h143, .cells [.int .i64 13, .int .i64 34, .str ⟨#[]⟩, .str ⟨#[]⟩, .int .i64 0, .int .i64 0, .int .i64 0, .slice 3 0 2 2 .none, .int .i64 10, .int .i64 43, .str ⟨#[]⟩, .str ⟨#[]⟩, .int .i64 0, .int .i64 0, .int .i64 0, .slice 4 0 2 2 .none] 150, .cells [.int .i64 2, .int .i64 29, .str ⟨#[104]⟩, .str ⟨#[]⟩, .int .i64 0, .int .i64 0, .int .i64 0, .slice 5 0 1 1 .none, .int .i64 0, .int .i64 36, .str ⟨#[]⟩, .str ⟨#[]⟩, .int .i64 1, .int .i64 0, .int .i64 0, .nilslice] 150, h144, h145]⟩, [(0, 0), (1, 0), (79, 0), (46, 0), (72, 0), (36, 0)])]
theorem k74 : AllT (fstsF g74) := batch ([]) (AllF.nil) g74 (by kernel_rfl)
end
end Go.Proofs.YtnllfdcaloilnaaGreat.meanKnown
