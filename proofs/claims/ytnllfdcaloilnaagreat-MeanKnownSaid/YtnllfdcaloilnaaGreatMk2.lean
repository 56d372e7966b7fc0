/- Calls over literal memory of ploverlaw17.MeanKnown, reckoned in the kernel: part 2. -/
import Derived.Test.YtnllfdcaloilnaaGreatRows
import Derived.WalkKit
import Derived.ProofKit
import Derived.OpenShut
import Derived.Below
import Derived.ChangeSame
import Derived.Laws.Externs
import Derived.Laws.LoneSync
import Derived.Test.YtnllfdcaloilnaaGreatMka
namespace Go.Proofs.YtnllfdcaloilnaaGreat.meanKnown
open Go.ChangeShapes Go.WideShapes Go.ChangeAt Go.RowKit
set_option linter.unusedVariables false

section
open Go.Ev
set_option linter.unusedSimpArgs false
set_option maxRecDepth 100000 in
def g3 : List (MemF × Bm) := [(⟨64, [.str s0, .int .i64 102], [], .tuple [.agg [.int .i64 3, .int .i64 102, .int .i64 1, .str ⟨#[61]⟩, .int .i64 0], .agg [.int .i64 0, .int .i64 0]], []⟩, []),
  (⟨64, [.str s0, .int .i64 104], [], .tuple [.agg [.int .i64 2, .int .i64 104, .int .i64 1, .str ⟨#[50, 53, 53]⟩, .int .i64 255], .agg [.int .i64 0, .int .i64 0]], []⟩, []),
  (⟨64, [.str s0, .int .i64 107], [], .tuple [.agg [.int .i64 3, .int .i64 107, .int .i64 1, .str ⟨#[59]⟩, .int .i64 0], .agg [.int .i64 0, .int .i64 0]], []⟩, []),
  (⟨64, [.str s0, .int .i64 109], [], .tuple [.agg [.int .i64 1, .int .i64 109, .int .i64 1, .str ⟨#[111, 117, 116]⟩, .int .i64 0], .agg [.int .i64 0, .int .i64 0]], []⟩, []),
  (⟨64, [.str s0, .int .i64 113], [], .tuple [.agg [.int .i64 1, .int .i64 113, .int .i64 1, .str ⟨#[105, 114, 113]⟩, .int .i64 0], .agg [.int .i64 0, .int .i64 0]], []⟩, [])]
theorem k3 : AllT (fstsF g3) := batch ([]) (AllF.nil) g3 (by kernel_rfl)
set_option maxRecDepth 100000 in
def g4 : List (MemF × Bm) := [(⟨64, [.str s0, .int .i64 116], [], .tuple [.agg [.int .i64 3, .int .i64 116, .int .i64 1, .str ⟨#[46]⟩, .int .i64 0], .agg [.int .i64 0, .int .i64 0]], []⟩, []),
  (⟨64, [.str s0, .int .i64 117], [], .tuple [.agg [.int .i64 1, .int .i64 117, .int .i64 1, .str ⟨#[112, 101, 110, 100]⟩, .int .i64 0], .agg [.int .i64 0, .int .i64 0]], []⟩, []),
  (⟨64, [.str s0, .int .i64 122], [], .tuple [.agg [.int .i64 3, .int .i64 122, .int .i64 1, .str ⟨#[61]⟩, .int .i64 0], .agg [.int .i64 0, .int .i64 0]], []⟩, []),
  (⟨64, [.str s0, .int .i64 124], [], .tuple [.agg [.int .i64 2, .int .i64 124, .int .i64 1, .str ⟨#[50]⟩, .int .i64 2], .agg [.int .i64 0, .int .i64 0]], []⟩, [])]
theorem k4 : AllT (fstsF g4) := batch ([]) (AllF.nil) g4 (by kernel_rfl)
set_option maxRecDepth 100000 in
def g5 : List (MemF × Bm) := [(⟨64, [.str s0, .int .i64 125], [], .tuple [.agg [.int .i64 3, .int .i64 125, .int .i64 1, .str ⟨#[59]⟩, .int .i64 0], .agg [.int .i64 0, .int .i64 0]], []⟩, []),
  (⟨64, [.str s0, .int .i64 127], [], .tuple [.agg [.int .i64 1, .int .i64 127, .int .i64 1, .str ⟨#[99, 114, 105, 116, 105, 99, 97, 108]⟩, .int .i64 0], .agg [.int .i64 0, .int .i64 0]], []⟩, []),
  (⟨64, [.str s0, .int .i64 136], [], .tuple [.agg [.int .i64 3, .int .i64 136, .int .i64 1, .str ⟨#[123]⟩, .int .i64 0], .agg [.int .i64 0, .int .i64 0]], []⟩, []),
  (⟨64, [.str s0, .int .i64 138], [], .tuple [.agg [.int .i64 1, .int .i64 138, .int .i64 1, .str ⟨#[111, 117, 116]⟩, .int .i64 0], .agg [.int .i64 0, .int .i64 0]], []⟩, [])]
theorem k5 : AllT (fstsF g5) := batch ([]) (AllF.nil) g5 (by kernel_rfl)
end
end Go.Proofs.YtnllfdcaloilnaaGreat.meanKnown
