/- Calls over literal memory of ploverlaw17.MeanKnown, reckoned in the kernel: part 37. -/
import Derived.Test.YtnllfdcaloilnaaGreatRows
import Derived.WalkKit
import Derived.ProofKit
import Derived.OpenShut
import Derived.Below
import Derived.ChangeSame
import Derived.Laws.Externs
import Derived.Laws.LoneSync
import Derived.Test.YtnllfdcaloilnaaGreatMka
namespace Go.Proofs.YtnllfdcaloilnaaGreat.meanKnown
open Go.ChangeShapes Go.WideShapes Go.ChangeAt Go.RowKit
set_option linter.unusedVariables false

section
open Go.Ev
set_option linter.unusedSimpArgs false
set_option maxRecDepth 100000 in
def g187 : List (MemF × Bm) := [(⟨147, [.ptr 0 0], [.cells [.slice 1 0 38 38 (.some 5), .int .i64 5, .int .i64 0, .int .i64 0, .int .i64 0] 167, h280], .agg [.int .i64 6, .int .i64 18, .int .i64 1, .str ⟨#[]⟩, .str ⟨#[]⟩, .str ⟨#[]⟩, .int .i64 0, .int .i64 0, .int .i64 0, .slice 2 0 1 1 .none, .nilslice, .nilslice], [.cells [.slice 1 0 38 38 (.some 5), .int .i64 12, .int .i64 0, .int .i64 0, .int .i64 0] 167, h280, h281]⟩, [(0, 0), (1, 0), (24, 0)])]
theorem k187 : AllT (fstsF g187) := batch ([]) (AllF.nil) g187 (by kernel_rfl)
set_option maxRecDepth 100000 in
def g188 : List (MemF × Bm) := [(⟨147, [.ptr 0 0], [.cells [.slice 1 0 38 38 (.some 5), .int .i64 25, .int .i64 0, .int .i64 0, .int .i64 0] 167, h280], .agg [.int .i64 6, .int .i64 69, .int .i64 1, .str ⟨#[]⟩, .str ⟨#[]⟩, .str ⟨#[]⟩, .int .i64 12, .int .i64 0, .int .i64 0, .slice 2 0 1 1 .none, .nilslice, .nilslice], [.cells [.slice 1 0 38 38 (.some 5), .int .i64 32, .int .i64 0, .int .i64 0, .int .i64 0] 167, h280, h282]⟩, [(0, 0), (1, 0), (24, 0)])]
theorem k188 : AllT (fstsF g188) := batch ([]) (AllF.nil) g188 (by kernel_rfl)
set_option maxRecDepth 100000 in
def g189 : List (MemF × Bm) := [(⟨147, [.ptr 0 0], [.cells [.slice 1 0 38 38 (.some 5), .int .i64 34, .int .i64 0, .int .i64 0, .int .i64 0] 167, h280], .agg [.int .i64 11, .int .i64 94, .int .i64 1, .str ⟨#[]⟩, .str ⟨#[]⟩, .str ⟨#[]⟩, .int .i64 0, .int .i64 0, .int .i64 0, .nilslice, .nilslice, .nilslice], [.cells [.slice 1 0 38 38 (.some 5), .int .i64 36, .int .i64 0, .int .i64 0, .int .i64 0] 167, h280]⟩, [(0, 0), (1, 0)])]
theorem k189 : AllT (fstsF g189) := batch ([]) (AllF.nil) g189 (by kernel_rfl)
end
end Go.Proofs.YtnllfdcaloilnaaGreat.meanKnown
