/- Calls over literal memory of ploverlaw17.MeanKnown, reckoned in the kernel: part 12. -/
import Derived.Test.YtnllfdcaloilnaaGreatRows
import Derived.WalkKit
import Derived.ProofKit
import Derived.OpenShut
import Derived.Below
import Derived.ChangeSame
import Derived.Laws.Externs
import Derived.Laws.LoneSync
import Derived.Test.YtnllfdcaloilnaaGreatMka
namespace Go.Proofs.YtnllfdcaloilnaaGreat.meanKnown
open Go.ChangeShapes Go.WideShapes Go.ChangeAt Go.RowKit
set_option linter.unusedVariables false

section
open Go.Ev
set_option linter.unusedSimpArgs false
set_option maxRecDepth 100000 in
def g54 : List (MemF × Bm) := [(⟨147, [.ptr 0 0], [.cells [.slice 1 0 44 44 (.some 5), .int .i64 19, .int .i64 0, .int .i64 0, .int .i64 0] 167, h104], .agg [.int .i64 12, .int .i64 40, .int .i64 1, .str ⟨#[]⟩, .str ⟨#[]⟩, .str ⟨#[]⟩, .int .i64 0, .int .i64 0, .int .i64 0, .slice 2 0 1 1 .none, .nilslice, .nilslice], [.cells [.slice 1 0 44 44 (.some 5), .int .i64 27, .int .i64 0, .int .i64 0, .int .i64 0] 167, h104, .cells [.int .i64 12, .int .i64 49, .str ⟨#[]⟩, .str ⟨#[]⟩, .int .i64 0, .int .i64 0, .int .i64 0, .slice 3 0 2 2 .none] 150, .cells [.int .i64 1, .int .i64 47, .str ⟨#[97]⟩, .str ⟨#[]⟩, .int .i64 0, .int .i64 0, .int .i64 0, .nilslice, .int .i64 8, .int .i64 51, .str ⟨#[]⟩, .str ⟨#[]⟩, .int .i64 0, .int .i64 0, .int .i64 0, .slice 4 0 1 1 .none] 150, h105]⟩, [(0, 0), (1, 0), (51, 0), (45, 0), (42, 0)])]
theorem k54 : AllT (fstsF g54) := batch ([]) (AllF.nil) g54 (by kernel_rfl)
set_option maxRecDepth 100000 in
def g55 : List (MemF × Bm) := [(⟨72, [.ptr 0 0, .ptr 1 0], [.cells [.slice 2 0 44 44 (.some 5), .int .i64 5, .int .i64 0, .int .i64 0, .int .i64 0] 167, .cells [.nilslice, .slice 3 0 1 1 (.some 5), .nilslice] 71, h104, h106], .tuple [], [.cells [.slice 2 0 44 44 (.some 5), .int .i64 28, .int .i64 0, .int .i64 0, .int .i64 0] 167, h4, h104, h106, .cells [.str ⟨#[102]⟩, .int .i64 12, .int .i64 1, .int .i64 1, .int .i64 (-1), .int .i64 0, .slice 5 0 2 2 (.some 3), .int .i64 2, .slice 6 0 1 1 (.some 12)] 120, h107, .cells [.int .i64 12, .int .i64 40, .int .i64 1, .str ⟨#[]⟩, .str ⟨#[]⟩, .str ⟨#[]⟩, .int .i64 0, .int .i64 0, .int .i64 0, .slice 7 0 1 1 .none, .nilslice, .nilslice] 186, .cells [.int .i64 12, .int .i64 49, .str ⟨#[]⟩, .str ⟨#[]⟩, .int .i64 0, .int .i64 0, .int .i64 0, .slice 8 0 2 2 .none] 150, .cells [.int .i64 1, .int .i64 47, .str ⟨#[97]⟩, .str ⟨#[]⟩, .int .i64 0, .int .i64 0, .int .i64 0, .nilslice, .int .i64 8, .int .i64 51, .str ⟨#[]⟩, .str ⟨#[]⟩, .int .i64 0, .int .i64 0, .int .i64 0, .slice 9 0 1 1 .none] 150, h105]⟩, [(0, 0), (1, 0), (2, 0), (3, 0), (17, 0), (10, 0), (15, 0), (11, 0), (12, 0), (13, 0)])]
theorem k55 : AllT (fstsF g55) := batch (fstsF g54 ++ ([])) (AllF.append k54 (AllF.nil)) g55 (by kernel_rfl)
end
end Go.Proofs.YtnllfdcaloilnaaGreat.meanKnown
