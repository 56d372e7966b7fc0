/- Calls over literal memory of ploverlaw17.MeanKnown, reckoned in the kernel: part 35. -/
import Derived.Test.YtnllfdcaloilnaaGreatRows
import Derived.WalkKit
import Derived.ProofKit
import Derived.OpenShut
import Derived.Below
import Derived.ChangeSame
import Derived.Laws.Externs
import Derived.Laws.LoneSync
import Derived.Test.YtnllfdcaloilnaaGreatMka
namespace Go.Proofs.YtnllfdcaloilnaaGreat.meanKnown
open Go.ChangeShapes Go.WideShapes Go.ChangeAt Go.RowKit
set_option linter.unusedVariables false

section
open Go.Ev
set_option linter.unusedSimpArgs false
set_option maxRecDepth 100000 in
def g181 : List (MemF × Bm) := [(⟨64, [.str s8, .int .i64 41], [], .tuple [.agg [.int .i64 1, .int .i64 41, .int .i64 1, .str ⟨#[109, 97, 105, 110]⟩, .int .i64 0], .agg [.int .i64 0, .int .i64 0]], []⟩, []),
  (⟨64, [.str s8, .int .i64 45], [], .tuple [.agg [.int .i64 3, .int .i64 45, .int .i64 1, .str ⟨#[40]⟩, .int .i64 0], .agg [.int .i64 0, .int .i64 0]], []⟩, []),
  (⟨64, [.str s8, .int .i64 46], [], .tuple [.agg [.int .i64 3, .int .i64 46, .int .i64 1, .str ⟨#[41]⟩, .int .i64 0], .agg [.int .i64 0, .int .i64 0]], []⟩, []),
  (⟨64, [.str s8, .int .i64 48], [], .tuple [.agg [.int .i64 3, .int .i64 48, .int .i64 1, .str ⟨#[123]⟩, .int .i64 0], .agg [.int .i64 0, .int .i64 0]], []⟩, []),
  (⟨64, [.str s8, .int .i64 50], [], .tuple [.agg [.int .i64 1, .int .i64 50, .int .i64 1, .str ⟨#[111, 117, 116]⟩, .int .i64 0], .agg [.int .i64 0, .int .i64 0]], []⟩, []),
  (⟨64, [.str s8, .int .i64 54], [], .tuple [.agg [.int .i64 1, .int .i64 54, .int .i64 1, .str ⟨#[103, 112, 105, 111]⟩, .int .i64 0], .agg [.int .i64 0, .int .i64 0]], []⟩, []),
  (⟨64, [.str s8, .int .i64 58], [], .tuple [.agg [.int .i64 3, .int .i64 58, .int .i64 1, .str ⟨#[46]⟩, .int .i64 0], .agg [.int .i64 0, .int .i64 0]], []⟩, []),
  (⟨64, [.str s8, .int .i64 59], [], .tuple [.agg [.int .i64 1, .int .i64 59, .int .i64 1, .str ⟨#[101, 100, 103, 101]⟩, .int .i64 0], .agg [.int .i64 0, .int .i64 0]], []⟩, [])]
theorem k181 : AllT (fstsF g181) := batch ([]) (AllF.nil) g181 (by kernel_rfl)
set_option maxRecDepth 100000 in
def g182 : List (MemF × Bm) := [(⟨64, [.str s8, .int .i64 64], [], .tuple [.agg [.int .i64 3, .int .i64 64, .int .i64 1, .str ⟨#[61]⟩, .int .i64 0], .agg [.int .i64 0, .int .i64 0]], []⟩, []),
  (⟨64, [.str s8, .int .i64 66], [], .tuple [.agg [.int .i64 2, .int .i64 66, .int .i64 1, .str ⟨#[49]⟩, .int .i64 1], .agg [.int .i64 0, .int .i64 0]], []⟩, []),
  (⟨64, [.str s8, .int .i64 67], [], .tuple [.agg [.int .i64 3, .int .i64 67, .int .i64 1, .str ⟨#[59]⟩, .int .i64 0], .agg [.int .i64 0, .int .i64 0]], []⟩, []),
  (⟨64, [.str s8, .int .i64 69], [], .tuple [.agg [.int .i64 1, .int .i64 69, .int .i64 1, .str ⟨#[111, 117, 116]⟩, .int .i64 0], .agg [.int .i64 0, .int .i64 0]], []⟩, []),
  (⟨64, [.str s8, .int .i64 73], [], .tuple [.agg [.int .i64 1, .int .i64 73, .int .i64 1, .str ⟨#[105, 114, 113]⟩, .int .i64 0], .agg [.int .i64 0, .int .i64 0]], []⟩, [])]
theorem k182 : AllT (fstsF g182) := batch ([]) (AllF.nil) g182 (by kernel_rfl)
set_option maxRecDepth 100000 in
def g183 : List (MemF × Bm) := [(⟨64, [.str s8, .int .i64 76], [], .tuple [.agg [.int .i64 3, .int .i64 76, .int .i64 1, .str ⟨#[46]⟩, .int .i64 0], .agg [.int .i64 0, .int .i64 0]], []⟩, []),
  (⟨64, [.str s8, .int .i64 77], [], .tuple [.agg [.int .i64 1, .int .i64 77, .int .i64 1, .str ⟨#[109, 97, 115, 107]⟩, .int .i64 0], .agg [.int .i64 0, .int .i64 0]], []⟩, []),
  (⟨64, [.str s8, .int .i64 82], [], .tuple [.agg [.int .i64 3, .int .i64 82, .int .i64 1, .str ⟨#[61]⟩, .int .i64 0], .agg [.int .i64 0, .int .i64 0]], []⟩, [])]
theorem k183 : AllT (fstsF g183) := batch ([]) (AllF.nil) g183 (by kernel_rfl)
end
end Go.Proofs.YtnllfdcaloilnaaGreat.meanKnown
