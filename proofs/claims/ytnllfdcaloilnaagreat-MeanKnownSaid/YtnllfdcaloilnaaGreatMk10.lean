/- Calls over literal memory of ploverlaw17.MeanKnown, reckoned in the kernel: part 10. -/
import Derived.Test.YtnllfdcaloilnaaGreatRows
import Derived.WalkKit
import Derived.ProofKit
import Derived.OpenShut
import Derived.Below
import Derived.ChangeSame
import Derived.Laws.Externs
import Derived.Laws.LoneSync
import Derived.Test.YtnllfdcaloilnaaGreatMka
namespace Go.Proofs.YtnllfdcaloilnaaGreat.meanKnown
open Go.ChangeShapes Go.WideShapes Go.ChangeAt Go.RowKit
set_option linter.unusedVariables false

section
open Go.Ev
set_option linter.unusedSimpArgs false
set_option maxRecDepth 100000 in
def g49 : List (MemF × Bm) := [(⟨64, [.str s1, .int .i64 34], [], .tuple [.agg [.int .i64 1, .int .i64 34, .int .i64 1, .str ⟨#[119, 51, 50]⟩, .int .i64 0], .agg [.int .i64 0, .int .i64 0]], []⟩, []),
  (⟨64, [.str s1, .int .i64 38], [], .tuple [.agg [.int .i64 3, .int .i64 38, .int .i64 1, .str ⟨#[123]⟩, .int .i64 0], .agg [.int .i64 0, .int .i64 0]], []⟩, []),
  (⟨64, [.str s1, .int .i64 40], [], .tuple [.agg [.int .i64 1, .int .i64 40, .int .i64 1, .str ⟨#[114, 101, 116, 117, 114, 110]⟩, .int .i64 0], .agg [.int .i64 0, .int .i64 0]], []⟩, []),
  (⟨64, [.str s1, .int .i64 47], [], .tuple [.agg [.int .i64 1, .int .i64 47, .int .i64 1, .str ⟨#[97]⟩, .int .i64 0], .agg [.int .i64 0, .int .i64 0]], []⟩, []),
  (⟨64, [.str s1, .int .i64 49], [], .tuple [.agg [.int .i64 3, .int .i64 49, .int .i64 1, .str ⟨#[43]⟩, .int .i64 0], .agg [.int .i64 0, .int .i64 0]], []⟩, []),
  (⟨64, [.str s1, .int .i64 51], [], .tuple [.agg [.int .i64 1, .int .i64 51, .int .i64 1, .str ⟨#[119, 51, 50]⟩, .int .i64 0], .agg [.int .i64 0, .int .i64 0]], []⟩, []),
  (⟨64, [.str s1, .int .i64 54], [], .tuple [.agg [.int .i64 3, .int .i64 54, .int .i64 1, .str ⟨#[40]⟩, .int .i64 0], .agg [.int .i64 0, .int .i64 0]], []⟩, []),
  (⟨64, [.str s1, .int .i64 55], [], .tuple [.agg [.int .i64 1, .int .i64 55, .int .i64 1, .str ⟨#[98]⟩, .int .i64 0], .agg [.int .i64 0, .int .i64 0]], []⟩, []),
  (⟨64, [.str s1, .int .i64 56], [], .tuple [.agg [.int .i64 3, .int .i64 56, .int .i64 1, .str ⟨#[41]⟩, .int .i64 0], .agg [.int .i64 0, .int .i64 0]], []⟩, [])]
theorem k49 : AllT (fstsF g49) := batch ([]) (AllF.nil) g49 (by kernel_rfl)
set_option maxRecDepth 100000 in
def g50 : List (MemF × Bm) := [(⟨64, [.str s1, .int .i64 57], [], .tuple [.agg [.int .i64 3, .int .i64 57, .int .i64 1, .str ⟨#[59]⟩, .int .i64 0], .agg [.int .i64 0, .int .i64 0]], []⟩, []),
  (⟨64, [.str s1, .int .i64 59], [], .tuple [.agg [.int .i64 3, .int .i64 59, .int .i64 1, .str ⟨#[125]⟩, .int .i64 0], .agg [.int .i64 0, .int .i64 0]], []⟩, []),
  (⟨64, [.str s1, .int .i64 61], [], .tuple [.agg [.int .i64 1, .int .i64 61, .int .i64 1, .str ⟨#[102, 110]⟩, .int .i64 0], .agg [.int .i64 0, .int .i64 0]], []⟩, []),
  (⟨64, [.str s1, .int .i64 64], [], .tuple [.agg [.int .i64 1, .int .i64 64, .int .i64 1, .str ⟨#[109, 97, 105, 110]⟩, .int .i64 0], .agg [.int .i64 0, .int .i64 0]], []⟩, []),
  (⟨64, [.str s1, .int .i64 68], [], .tuple [.agg [.int .i64 3, .int .i64 68, .int .i64 1, .str ⟨#[40]⟩, .int .i64 0], .agg [.int .i64 0, .int .i64 0]], []⟩, []),
  (⟨64, [.str s1, .int .i64 69], [], .tuple [.agg [.int .i64 3, .int .i64 69, .int .i64 1, .str ⟨#[41]⟩, .int .i64 0], .agg [.int .i64 0, .int .i64 0]], []⟩, []),
  (⟨64, [.str s1, .int .i64 71], [], .tuple [.agg [.int .i64 3, .int .i64 71, .int .i64 1, .str ⟨#[123]⟩, .int .i64 0], .agg [.int .i64 0, .int .i64 0]], []⟩, [])]
theorem k50 : AllT (fstsF g50) := batch ([]) (AllF.nil) g50 (by kernel_rfl)
set_option maxRecDepth 100000 in
def g51 : List (MemF × Bm) := [(⟨64, [.str s1, .int .i64 73], [], .tuple [.agg [.int .i64 1, .int .i64 73, .int .i64 1, .str ⟨#[103]⟩, .int .i64 0], .agg [.int .i64 0, .int .i64 0]], []⟩, []),
  (⟨64, [.str s1, .int .i64 75], [], .tuple [.agg [.int .i64 3, .int .i64 75, .int .i64 1, .str ⟨#[61]⟩, .int .i64 0], .agg [.int .i64 0, .int .i64 0]], []⟩, []),
  (⟨64, [.str s1, .int .i64 77], [], .tuple [.agg [.int .i64 1, .int .i64 77, .int .i64 1, .str ⟨#[102]⟩, .int .i64 0], .agg [.int .i64 0, .int .i64 0]], []⟩, []),
  (⟨64, [.str s1, .int .i64 78], [], .tuple [.agg [.int .i64 3, .int .i64 78, .int .i64 1, .str ⟨#[40]⟩, .int .i64 0], .agg [.int .i64 0, .int .i64 0]], []⟩, []),
  (⟨64, [.str s1, .int .i64 79], [], .tuple [.agg [.int .i64 2, .int .i64 79, .int .i64 1, .str ⟨#[52, 48]⟩, .int .i64 40], .agg [.int .i64 0, .int .i64 0]], []⟩, []),
  (⟨64, [.str s1, .int .i64 81], [], .tuple [.agg [.int .i64 3, .int .i64 81, .int .i64 1, .str ⟨#[44]⟩, .int .i64 0], .agg [.int .i64 0, .int .i64 0]], []⟩, [])]
theorem k51 : AllT (fstsF g51) := batch ([]) (AllF.nil) g51 (by kernel_rfl)
end
end Go.Proofs.YtnllfdcaloilnaaGreat.meanKnown
