/- Calls over literal memory of ploverlaw17.MeanKnown, reckoned in the kernel: part 4. -/
import Derived.Test.YtnllfdcaloilnaaGreatRows
import Derived.WalkKit
import Derived.ProofKit
import Derived.OpenShut
import Derived.Below
import Derived.ChangeSame
import Derived.Laws.Externs
import Derived.Laws.LoneSync
import Derived.Test.YtnllfdcaloilnaaGreatMka
namespace Go.Proofs.YtnllfdcaloilnaaGreat.meanKnown
open Go.ChangeShapes Go.WideShapes Go.ChangeAt Go.RowKit
set_option linter.unusedVariables false

section
open Go.Ev
set_option linter.unusedSimpArgs false
set_option maxRecDepth 100000 in
def g9 : List (MemF × Bm) := [(⟨64, [.str s0, .int .i64 166], [], .tuple [.agg [.int .i64 2, .int .i64 166, .int .i64 1, .str ⟨#[49]⟩, .int .i64 1], .agg [.int .i64 0, .int .i64 0]], []⟩, []),
  (⟨64, [.str s0, .int .i64 167], [], .tuple [.agg [.int .i64 3, .int .i64 167, .int .i64 1, .str ⟨#[41]⟩, .int .i64 0], .agg [.int .i64 0, .int .i64 0]], []⟩, []),
  (⟨64, [.str s0, .int .i64 169], [], .tuple [.agg [.int .i64 3, .int .i64 169, .int .i64 1, .str ⟨#[123]⟩, .int .i64 0], .agg [.int .i64 0, .int .i64 0]], []⟩, [])]
theorem k9 : AllT (fstsF g9) := batch ([]) (AllF.nil) g9 (by kernel_rfl)
set_option maxRecDepth 100000 in
def g10 : List (MemF × Bm) := [(⟨64, [.str s0, .int .i64 171], [], .tuple [.agg [.int .i64 3, .int .i64 171, .int .i64 1, .str ⟨#[125]⟩, .int .i64 0], .agg [.int .i64 0, .int .i64 0]], []⟩, []),
  (⟨64, [.str s0, .int .i64 173], [], .tuple [.agg [.int .i64 3, .int .i64 173, .int .i64 1, .str ⟨#[125]⟩, .int .i64 0], .agg [.int .i64 0, .int .i64 0]], []⟩, [])]
theorem k10 : AllT (fstsF g10) := batch ([]) (AllF.nil) g10 (by kernel_rfl)
end
end Go.Proofs.YtnllfdcaloilnaaGreat.meanKnown
