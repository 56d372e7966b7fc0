/- Calls over literal memory of ploverlaw17.MeanKnown, reckoned in the kernel: part 6. -/
import Derived.Test.YtnllfdcaloilnaaGreatRows
import Derived.WalkKit
import Derived.ProofKit
import Derived.OpenShut
import Derived.Below
import Derived.ChangeSame
import Derived.Laws.Externs
import Derived.Laws.LoneSync
import Derived.Test.YtnllfdcaloilnaaGreatMka
namespace Go.Proofs.YtnllfdcaloilnaaGreat.meanKnown
open Go.ChangeShapes Go.WideShapes Go.ChangeAt Go.RowKit
set_option linter.unusedVariables false

section
open Go.Ev
set_option linter.unusedSimpArgs false
set_option maxRecDepth 100000 in
def g13 : List (MemF × Bm) := [(⟨147, [.ptr 0 0], [.cells [.slice 1 0 65 65 (.some 5), .int .i64 23, .int .i64 0, .int .i64 0, .int .i64 0] 167, h0], .agg [.int .i64 1, .int .i64 68, .int .i64 1, .str ⟨#[103]⟩, .str ⟨#[]⟩, .str ⟨#[]⟩, .int .i64 0, .int .i64 0, .int .i64 0, .slice 2 0 1 1 (.some 8), .nilslice, .nilslice], [.cells [.slice 1 0 65 65 (.some 5), .int .i64 27, .int .i64 0, .int .i64 0, .int .i64 0] 167, h0, h2]⟩, [(0, 0), (1, 0), (23, 0)])]
theorem k13 : AllT (fstsF g13) := batch ([]) (AllF.nil) g13 (by kernel_rfl)
set_option maxRecDepth 100000 in
def g14 : List (MemF × Bm) := [(⟨72, [.ptr 0 0, .ptr 1 0], [h3, h4, h0, h5, h6, h7, h1], .tuple [], [h8, .cells [.nilslice, .slice 3 0 1 1 (.some 5), .slice 7 0 2 2 (.some 9)] 71, h0, h5, .gone, h7, h1, .cells [.str ⟨#[]⟩, .int .i64 12, .int .i64 1, .int .i64 1, .int .i64 1, .int .i64 2, .nilslice, .int .i64 0, .slice 5 0 1 1 (.some 12), .str ⟨#[]⟩, .int .i64 50, .int .i64 1, .int .i64 1, .int .i64 5, .int .i64 7, .nilslice, .int .i64 0, .slice 8 0 1 1 (.some 12)] 120, .cells [.int .i64 1, .int .i64 68, .int .i64 1, .str ⟨#[103]⟩, .str ⟨#[]⟩, .str ⟨#[]⟩, .int .i64 0, .int .i64 0, .int .i64 0, .slice 9 0 1 1 (.some 8), .nilslice, .nilslice] 186, h2]⟩, [(0, 0), (1, 0), (2, 0), (3, 0), (4, 0), (5, 0), (6, 0), (14, 0), (12, 0), (10, 0)])]
theorem k14 : AllT (fstsF g14) := batch (fstsF g13 ++ ([])) (AllF.append k13 (AllF.nil)) g14 (by kernel_rfl)
set_option maxRecDepth 100000 in
def g15 : List (MemF × Bm) := [(⟨147, [.ptr 0 0], [.cells [.slice 1 0 65 65 (.some 5), .int .i64 40, .int .i64 0, .int .i64 0, .int .i64 0] 167, h0], .agg [.int .i64 6, .int .i64 109, .int .i64 1, .str ⟨#[]⟩, .str ⟨#[]⟩, .str ⟨#[]⟩, .int .i64 13, .int .i64 0, .int .i64 0, .slice 2 0 1 1 .none, .nilslice, .nilslice], [h9, h0, h10]⟩, [(0, 0), (1, 0), (24, 0)])]
theorem k15 : AllT (fstsF g15) := batch ([]) (AllF.nil) g15 (by kernel_rfl)
set_option maxRecDepth 100000 in
def g16 : List (MemF × Bm) := [(⟨147, [.ptr 0 0], [h9, h0], .agg [.int .i64 9, .int .i64 127, .int .i64 1, .str ⟨#[]⟩, .str ⟨#[]⟩, .str ⟨#[]⟩, .int .i64 0, .int .i64 0, .int .i64 1, .nilslice, .slice 2 0 1 1 (.some 12), .nilslice], [h11, h0, .cells [.int .i64 6, .int .i64 138, .int .i64 1, .str ⟨#[]⟩, .str ⟨#[]⟩, .str ⟨#[]⟩, .int .i64 13, .int .i64 0, .int .i64 0, .slice 3 0 1 1 .none, .nilslice, .nilslice] 186, h12]⟩, [(0, 0), (1, 0), (28, 0), (26, 0)])]
theorem k16 : AllT (fstsF g16) := batch ([]) (AllF.nil) g16 (by kernel_rfl)
end
end Go.Proofs.YtnllfdcaloilnaaGreat.meanKnown
