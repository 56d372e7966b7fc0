/- Calls over literal memory of ploverlaw17.MeanKnown, reckoned in the kernel: part 26. -/
import Derived.Test.YtnllfdcaloilnaaGreatRows
import Derived.WalkKit
import Derived.ProofKit
import Derived.OpenShut
import Derived.Below
import Derived.ChangeSame
import Derived.Laws.Externs
import Derived.Laws.LoneSync
import Derived.Test.YtnllfdcaloilnaaGreatMka
import Derived.Test.YtnllfdcaloilnaaGreatMk25
namespace Go.Proofs.YtnllfdcaloilnaaGreat.meanKnown
open Go.ChangeShapes Go.WideShapes Go.ChangeAt Go.RowKit
set_option linter.unusedVariables false

section
open Go.Ev
set_option linter.unusedSimpArgs false
set_option maxRecDepth 100000 in
def g138 : List (MemF × Bm) := [(⟨64, [.str s5, .int .i64 54], [], .tuple [.agg [.int .i64 3, .int .i64 54, .int .i64 1, .str ⟨#[46]⟩, .int .i64 0], .agg [.int .i64 0, .int .i64 0]], []⟩, []),
  (⟨64, [.str s5, .int .i64 55], [], .tuple [.agg [.int .i64 1, .int .i64 55, .int .i64 1, .str ⟨#[99, 111, 109, 112]⟩, .int .i64 0], .agg [.int .i64 0, .int .i64 0]], []⟩, []),
  (⟨64, [.str s5, .int .i64 59], [], .tuple [.agg [.int .i64 3, .int .i64 59, .int .i64 1, .str ⟨#[59]⟩, .int .i64 0], .agg [.int .i64 0, .int .i64 0]], []⟩, []),
  (⟨64, [.str s5, .int .i64 61], [], .tuple [.agg [.int .i64 3, .int .i64 61, .int .i64 1, .str ⟨#[125]⟩, .int .i64 0], .agg [.int .i64 0, .int .i64 0]], []⟩, [])]
theorem k138 : AllT (fstsF g138) := batch ([]) (AllF.nil) g138 (by kernel_rfl)
set_option maxRecDepth 100000 in
def g139 : List (MemF × Bm) := [(⟨39, [.str s5], [], .tuple [.slice 0 0 26 26 (.some 5), .agg [.int .i64 0, .int .i64 0]], [h221]⟩, [(102, 0)])]
theorem k139 : AllT (fstsF g139) := batch (fstsF g136 ++ (fstsF g137 ++ (fstsF g138 ++ ([])))) (AllF.append k136 (AllF.append k137 (AllF.append k138 (AllF.nil)))) g139 (by kernel_rfl)
set_option maxRecDepth 100000 in
def g140 : List (MemF × Bm) := [(⟨147, [.ptr 0 0], [.cells [.slice 1 0 26 26 (.some 5), .int .i64 17, .int .i64 0, .int .i64 0, .int .i64 0] 167, h221], .agg [.int .i64 5, .int .i64 45, .int .i64 1, .str ⟨#[103]⟩, .str ⟨#[]⟩, .str ⟨#[]⟩, .int .i64 7, .int .i64 0, .int .i64 0, .nilslice, .nilslice, .nilslice], [.cells [.slice 1 0 26 26 (.some 5), .int .i64 24, .int .i64 0, .int .i64 0, .int .i64 0] 167, h221]⟩, [(0, 0), (1, 0)])]
theorem k140 : AllT (fstsF g140) := batch ([]) (AllF.nil) g140 (by kernel_rfl)
end
end Go.Proofs.YtnllfdcaloilnaaGreat.meanKnown
