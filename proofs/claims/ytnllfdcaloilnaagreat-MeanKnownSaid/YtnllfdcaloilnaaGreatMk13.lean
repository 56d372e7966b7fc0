/- Calls over literal memory of ploverlaw17.MeanKnown, reckoned in the kernel: part 13. -/
import Derived.Test.YtnllfdcaloilnaaGreatRows
import Derived.WalkKit
import Derived.ProofKit
import Derived.OpenShut
import Derived.Below
import Derived.ChangeSame
import Derived.Laws.Externs
import Derived.Laws.LoneSync
import Derived.Test.YtnllfdcaloilnaaGreatMka
import Derived.Test.YtnllfdcaloilnaaGreatMk11
import Derived.Test.YtnllfdcaloilnaaGreatMk12
namespace Go.Proofs.YtnllfdcaloilnaaGreat.meanKnown
open Go.ChangeShapes Go.WideShapes Go.ChangeAt Go.RowKit
set_option linter.unusedVariables false

section
open Go.Ev
set_option linter.unusedSimpArgs false
set_option maxRecDepth 100000 in
def g56 : List (MemF × Bm) := [(⟨147, [.ptr 0 0], [.cells [.slice 1 0 44 44 (.some 5), .int .i64 33, .int .i64 0, .int .i64 0, .int .i64 0] 167, h104], .agg [.int .i64 4, .int .i64 73, .int .i64 1, .str ⟨#[103]⟩, .str ⟨#[]⟩, .str ⟨#[102]⟩, .int .i64 0, .int .i64 0, .int .i64 0, .slice 2 0 2 2 (.some 8), .nilslice, .nilslice], [.cells [.slice 1 0 44 44 (.some 5), .int .i64 42, .int .i64 0, .int .i64 0, .int .i64 0] 167, h104, h108]⟩, [(0, 0), (1, 0), (43, 0)])]
theorem k56 : AllT (fstsF g56) := batch ([]) (AllF.nil) g56 (by kernel_rfl)
set_option maxRecDepth 100000 in
def g57 : List (MemF × Bm) := [(⟨40, [.str s1], [], .tuple [.agg [.nilslice, .slice 0 0 1 1 (.some 5), .slice 1 0 2 2 (.some 9)], .agg [.int .i64 0, .int .i64 0]], [h106, .cells [.str ⟨#[102]⟩, .int .i64 12, .int .i64 1, .int .i64 1, .int .i64 (-1), .int .i64 0, .slice 2 0 2 2 (.some 3), .int .i64 2, .slice 3 0 1 1 (.some 12), .str ⟨#[109, 97, 105, 110]⟩, .int .i64 61, .int .i64 1, .int .i64 1, .int .i64 (-1), .int .i64 0, .nilslice, .int .i64 0, .slice 4 0 1 1 (.some 12)] 120, h107, .cells [.int .i64 12, .int .i64 40, .int .i64 1, .str ⟨#[]⟩, .str ⟨#[]⟩, .str ⟨#[]⟩, .int .i64 0, .int .i64 0, .int .i64 0, .slice 5 0 1 1 .none, .nilslice, .nilslice] 186, .cells [.int .i64 4, .int .i64 73, .int .i64 1, .str ⟨#[103]⟩, .str ⟨#[]⟩, .str ⟨#[102]⟩, .int .i64 0, .int .i64 0, .int .i64 0, .slice 6 0 2 2 (.some 8), .nilslice, .nilslice] 186, .cells [.int .i64 12, .int .i64 49, .str ⟨#[]⟩, .str ⟨#[]⟩, .int .i64 0, .int .i64 0, .int .i64 0, .slice 7 0 2 2 .none] 150, h108, .cells [.int .i64 1, .int .i64 47, .str ⟨#[97]⟩, .str ⟨#[]⟩, .int .i64 0, .int .i64 0, .int .i64 0, .nilslice, .int .i64 8, .int .i64 51, .str ⟨#[]⟩, .str ⟨#[]⟩, .int .i64 0, .int .i64 0, .int .i64 0, .slice 8 0 1 1 .none] 150, h105]⟩, [(8, 0), (20, 0), (10, 0), (11, 0), (18, 0), (12, 0), (16, 0), (13, 0), (14, 0)])]
theorem k57 : AllT (fstsF g57) := batch (fstsF g53 ++ (fstsF g55 ++ (fstsF g56 ++ ([])))) (AllF.append k53 (AllF.append k55 (AllF.append k56 (AllF.nil)))) g57 (by kernel_rfl)
end
end Go.Proofs.YtnllfdcaloilnaaGreat.meanKnown
