/- Calls over literal memory of ploverlaw17.MeanKnown, reckoned in the kernel: part 33. -/
import Derived.Test.YtnllfdcaloilnaaGreatRows
import Derived.WalkKit
import Derived.ProofKit
import Derived.OpenShut
import Derived.Below
import Derived.ChangeSame
import Derived.Laws.Externs
import Derived.Laws.LoneSync
import Derived.Test.YtnllfdcaloilnaaGreatMka
namespace Go.Proofs.YtnllfdcaloilnaaGreat.meanKnown
open Go.ChangeShapes Go.WideShapes Go.ChangeAt Go.RowKit
set_option linter.unusedVariables false

section
open Go.Ev
set_option linter.unusedSimpArgs false
set_option maxRecDepth 100000 in
def g169 : List (MemF × Bm) := [(⟨39, [.str ⟨#[102, 110, 32, 109, 97, 105, 110, 40, 41, 32, 123, 32, 125]⟩], [], .tuple [.slice 0 0 7 7 (.some 5), .agg [.int .i64 0, .int .i64 0]], [.cells [.int .i64 1, .int .i64 0, .int .i64 1, .str ⟨#[102, 110]⟩, .int .i64 0, .int .i64 1, .int .i64 3, .int .i64 1, .str ⟨#[109, 97, 105, 110]⟩, .int .i64 0, .int .i64 3, .int .i64 7, .int .i64 1, .str ⟨#[40]⟩, .int .i64 0, .int .i64 3, .int .i64 8, .int .i64 1, .str ⟨#[41]⟩, .int .i64 0, .int .i64 3, .int .i64 10, .int .i64 1, .str ⟨#[123]⟩, .int .i64 0, .int .i64 3, .int .i64 12, .int .i64 1, .str ⟨#[125]⟩, .int .i64 0, .int .i64 0, .int .i64 13, .int .i64 1, .str ⟨#[]⟩, .int .i64 0] 162]⟩, [(26, 0)])]
theorem k169 : AllT (fstsF g169) := batch ([]) (AllF.nil) g169 (by kernel_rfl)
set_option maxRecDepth 100000 in
def g170 : List (MemF × Bm) := [(⟨40, [.str ⟨#[102, 110, 32, 109, 97, 105, 110, 40, 41, 32, 123, 32, 125]⟩], [], .tuple [.agg [.nilslice, .nilslice, .slice 0 0 1 1 (.some 9)], .agg [.int .i64 0, .int .i64 0]], [.cells [.str ⟨#[109, 97, 105, 110]⟩, .int .i64 0, .int .i64 1, .int .i64 1, .int .i64 (-1), .int .i64 0, .nilslice, .int .i64 0, .nilslice] 120]⟩, [(8, 0)])]
theorem k170 : AllT (fstsF g170) := batch (fstsF g169 ++ ([])) (AllF.append k169 (AllF.nil)) g170 (by kernel_rfl)
set_option maxRecDepth 100000 in
def g171 : List (MemF × Bm) := [(⟨64, [.str s7, .int .i64 30], [], .tuple [.agg [.int .i64 3, .int .i64 30, .int .i64 1, .str ⟨#[125]⟩, .int .i64 0], .agg [.int .i64 0, .int .i64 0]], []⟩, []),
  (⟨64, [.str s7, .int .i64 7], [], .tuple [.agg [.int .i64 3, .int .i64 7, .int .i64 1, .str ⟨#[40]⟩, .int .i64 0], .agg [.int .i64 0, .int .i64 0]], []⟩, []),
  (⟨64, [.str s7, .int .i64 8], [], .tuple [.agg [.int .i64 3, .int .i64 8, .int .i64 1, .str ⟨#[41]⟩, .int .i64 0], .agg [.int .i64 0, .int .i64 0]], []⟩, []),
  (⟨64, [.str s7, .int .i64 12], [], .tuple [.agg [.int .i64 1, .int .i64 12, .int .i64 1, .str ⟨#[111, 117, 116]⟩, .int .i64 0], .agg [.int .i64 0, .int .i64 0]], []⟩, []),
  (⟨64, [.str s7, .int .i64 16], [], .tuple [.agg [.int .i64 1, .int .i64 16, .int .i64 1, .str ⟨#[103, 112, 105, 111]⟩, .int .i64 0], .agg [.int .i64 0, .int .i64 0]], []⟩, []),
  (⟨64, [.str s7, .int .i64 20], [], .tuple [.agg [.int .i64 3, .int .i64 20, .int .i64 1, .str ⟨#[46]⟩, .int .i64 0], .agg [.int .i64 0, .int .i64 0]], []⟩, []),
  (⟨64, [.str s7, .int .i64 21], [], .tuple [.agg [.int .i64 1, .int .i64 21, .int .i64 1, .str ⟨#[111, 117, 116]⟩, .int .i64 0], .agg [.int .i64 0, .int .i64 0]], []⟩, []),
  (⟨64, [.str s7, .int .i64 25], [], .tuple [.agg [.int .i64 3, .int .i64 25, .int .i64 1, .str ⟨#[61]⟩, .int .i64 0], .agg [.int .i64 0, .int .i64 0]], []⟩, []),
  (⟨64, [.str s7, .int .i64 27], [], .tuple [.agg [.int .i64 2, .int .i64 27, .int .i64 1, .str ⟨#[51]⟩, .int .i64 3], .agg [.int .i64 0, .int .i64 0]], []⟩, []),
  (⟨64, [.str s7, .int .i64 28], [], .tuple [.agg [.int .i64 3, .int .i64 28, .int .i64 1, .str ⟨#[59]⟩, .int .i64 0], .agg [.int .i64 0, .int .i64 0]], []⟩, [])]
theorem k171 : AllT (fstsF g171) := batch ([]) (AllF.nil) g171 (by kernel_rfl)
end
end Go.Proofs.YtnllfdcaloilnaaGreat.meanKnown
