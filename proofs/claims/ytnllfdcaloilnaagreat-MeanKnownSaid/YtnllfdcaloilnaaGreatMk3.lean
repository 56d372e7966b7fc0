/- Calls over literal memory of ploverlaw17.MeanKnown, reckoned in the kernel: part 3. -/
import Derived.Test.YtnllfdcaloilnaaGreatRows
import Derived.WalkKit
import Derived.ProofKit
import Derived.OpenShut
import Derived.Below
import Derived.ChangeSame
import Derived.Laws.Externs
import Derived.Laws.LoneSync
import Derived.Test.YtnllfdcaloilnaaGreatMka
namespace Go.Proofs.YtnllfdcaloilnaaGreat.meanKnown
open Go.ChangeShapes Go.WideShapes Go.ChangeAt Go.RowKit
set_option linter.unusedVariables false

section
open Go.Ev
set_option linter.unusedSimpArgs false
set_option maxRecDepth 100000 in
def g6 : List (MemF × Bm) := [(⟨64, [.str s0, .int .i64 142], [], .tuple [.agg [.int .i64 1, .int .i64 142, .int .i64 1, .str ⟨#[105, 114, 113]⟩, .int .i64 0], .agg [.int .i64 0, .int .i64 0]], []⟩, []),
  (⟨64, [.str s0, .int .i64 145], [], .tuple [.agg [.int .i64 3, .int .i64 145, .int .i64 1, .str ⟨#[46]⟩, .int .i64 0], .agg [.int .i64 0, .int .i64 0]], []⟩, []),
  (⟨64, [.str s0, .int .i64 146], [], .tuple [.agg [.int .i64 1, .int .i64 146, .int .i64 1, .str ⟨#[112, 101, 110, 100]⟩, .int .i64 0], .agg [.int .i64 0, .int .i64 0]], []⟩, [])]
theorem k6 : AllT (fstsF g6) := batch ([]) (AllF.nil) g6 (by kernel_rfl)
set_option maxRecDepth 100000 in
def g7 : List (MemF × Bm) := [(⟨64, [.str s0, .int .i64 151], [], .tuple [.agg [.int .i64 3, .int .i64 151, .int .i64 1, .str ⟨#[61]⟩, .int .i64 0], .agg [.int .i64 0, .int .i64 0]], []⟩, []),
  (⟨64, [.str s0, .int .i64 153], [], .tuple [.agg [.int .i64 2, .int .i64 153, .int .i64 1, .str ⟨#[51, 50]⟩, .int .i64 32], .agg [.int .i64 0, .int .i64 0]], []⟩, []),
  (⟨64, [.str s0, .int .i64 155], [], .tuple [.agg [.int .i64 3, .int .i64 155, .int .i64 1, .str ⟨#[59]⟩, .int .i64 0], .agg [.int .i64 0, .int .i64 0]], []⟩, [])]
theorem k7 : AllT (fstsF g7) := batch ([]) (AllF.nil) g7 (by kernel_rfl)
set_option maxRecDepth 100000 in
def g8 : List (MemF × Bm) := [(⟨64, [.str s0, .int .i64 157], [], .tuple [.agg [.int .i64 3, .int .i64 157, .int .i64 1, .str ⟨#[125]⟩, .int .i64 0], .agg [.int .i64 0, .int .i64 0]], []⟩, []),
  (⟨64, [.str s0, .int .i64 159], [], .tuple [.agg [.int .i64 1, .int .i64 159, .int .i64 1, .str ⟨#[119, 104, 105, 108, 101]⟩, .int .i64 0], .agg [.int .i64 0, .int .i64 0]], []⟩, []),
  (⟨64, [.str s0, .int .i64 165], [], .tuple [.agg [.int .i64 3, .int .i64 165, .int .i64 1, .str ⟨#[40]⟩, .int .i64 0], .agg [.int .i64 0, .int .i64 0]], []⟩, [])]
theorem k8 : AllT (fstsF g8) := batch ([]) (AllF.nil) g8 (by kernel_rfl)
end
end Go.Proofs.YtnllfdcaloilnaaGreat.meanKnown
