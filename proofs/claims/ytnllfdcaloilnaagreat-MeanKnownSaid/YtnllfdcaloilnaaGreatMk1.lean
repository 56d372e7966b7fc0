/- Calls over literal memory of ploverlaw17.MeanKnown, reckoned in the kernel: part 1. -/
import Derived.Test.YtnllfdcaloilnaaGreatRows
import Derived.WalkKit
import Derived.ProofKit
import Derived.OpenShut
import Derived.Below
import Derived.ChangeSame
import Derived.Laws.Externs
import Derived.Laws.LoneSync
import Derived.Test.YtnllfdcaloilnaaGreatMka
namespace Go.Proofs.YtnllfdcaloilnaaGreat.meanKnown
open Go.ChangeShapes Go.WideShapes Go.ChangeAt Go.RowKit
set_option linter.unusedVariables false

section
open Go.Ev
set_option linter.unusedSimpArgs false
set_option maxRecDepth 100000 in
def g0 : List (MemF × Bm) := [(⟨64, [.str s0, .int .i64 46], [], .tuple [.agg [.int .i64 3, .int .i64 46, .int .i64 1, .str ⟨#[59]⟩, .int .i64 0], .agg [.int .i64 0, .int .i64 0]], []⟩, []),
  (⟨64, [.str s0, .int .i64 48], [], .tuple [.agg [.int .i64 3, .int .i64 48, .int .i64 1, .str ⟨#[125]⟩, .int .i64 0], .agg [.int .i64 0, .int .i64 0]], []⟩, []),
  (⟨64, [.str s0, .int .i64 53], [], .tuple [.agg [.int .i64 2, .int .i64 53, .int .i64 1, .str ⟨#[53]⟩, .int .i64 5], .agg [.int .i64 0, .int .i64 0]], []⟩, []),
  (⟨64, [.str s0, .int .i64 55], [], .tuple [.agg [.int .i64 1, .int .i64 55, .int .i64 1, .str ⟨#[112, 114, 105, 111, 114, 105, 116, 121]⟩, .int .i64 0], .agg [.int .i64 0, .int .i64 0]], []⟩, []),
  (⟨64, [.str s0, .int .i64 64], [], .tuple [.agg [.int .i64 2, .int .i64 64, .int .i64 1, .str ⟨#[55]⟩, .int .i64 7], .agg [.int .i64 0, .int .i64 0]], []⟩, []),
  (⟨64, [.str s0, .int .i64 66], [], .tuple [.agg [.int .i64 3, .int .i64 66, .int .i64 1, .str ⟨#[123]⟩, .int .i64 0], .agg [.int .i64 0, .int .i64 0]], []⟩, []),
  (⟨64, [.str s0, .int .i64 68], [], .tuple [.agg [.int .i64 1, .int .i64 68, .int .i64 1, .str ⟨#[103]⟩, .int .i64 0], .agg [.int .i64 0, .int .i64 0]], []⟩, []),
  (⟨64, [.str s0, .int .i64 70], [], .tuple [.agg [.int .i64 3, .int .i64 70, .int .i64 1, .str ⟨#[61]⟩, .int .i64 0], .agg [.int .i64 0, .int .i64 0]], []⟩, [])]
theorem k0 : AllT (fstsF g0) := batch ([]) (AllF.nil) g0 (by kernel_rfl)
set_option maxRecDepth 100000 in
def g1 : List (MemF × Bm) := [(⟨64, [.str s0, .int .i64 72], [], .tuple [.agg [.int .i64 2, .int .i64 72, .int .i64 1, .str ⟨#[53]⟩, .int .i64 5], .agg [.int .i64 0, .int .i64 0]], []⟩, []),
  (⟨64, [.str s0, .int .i64 73], [], .tuple [.agg [.int .i64 3, .int .i64 73, .int .i64 1, .str ⟨#[59]⟩, .int .i64 0], .agg [.int .i64 0, .int .i64 0]], []⟩, []),
  (⟨64, [.str s0, .int .i64 75], [], .tuple [.agg [.int .i64 3, .int .i64 75, .int .i64 1, .str ⟨#[125]⟩, .int .i64 0], .agg [.int .i64 0, .int .i64 0]], []⟩, []),
  (⟨64, [.str s0, .int .i64 77], [], .tuple [.agg [.int .i64 1, .int .i64 77, .int .i64 1, .str ⟨#[102, 110]⟩, .int .i64 0], .agg [.int .i64 0, .int .i64 0]], []⟩, []),
  (⟨64, [.str s0, .int .i64 80], [], .tuple [.agg [.int .i64 1, .int .i64 80, .int .i64 1, .str ⟨#[109, 97, 105, 110]⟩, .int .i64 0], .agg [.int .i64 0, .int .i64 0]], []⟩, []),
  (⟨64, [.str s0, .int .i64 84], [], .tuple [.agg [.int .i64 3, .int .i64 84, .int .i64 1, .str ⟨#[40]⟩, .int .i64 0], .agg [.int .i64 0, .int .i64 0]], []⟩, []),
  (⟨64, [.str s0, .int .i64 85], [], .tuple [.agg [.int .i64 3, .int .i64 85, .int .i64 1, .str ⟨#[41]⟩, .int .i64 0], .agg [.int .i64 0, .int .i64 0]], []⟩, [])]
theorem k1 : AllT (fstsF g1) := batch ([]) (AllF.nil) g1 (by kernel_rfl)
set_option maxRecDepth 100000 in
def g2 : List (MemF × Bm) := [(⟨64, [.str s0, .int .i64 87], [], .tuple [.agg [.int .i64 3, .int .i64 87, .int .i64 1, .str ⟨#[123]⟩, .int .i64 0], .agg [.int .i64 0, .int .i64 0]], []⟩, []),
  (⟨64, [.str s0, .int .i64 89], [], .tuple [.agg [.int .i64 1, .int .i64 89, .int .i64 1, .str ⟨#[111, 117, 116]⟩, .int .i64 0], .agg [.int .i64 0, .int .i64 0]], []⟩, []),
  (⟨64, [.str s0, .int .i64 93], [], .tuple [.agg [.int .i64 1, .int .i64 93, .int .i64 1, .str ⟨#[105, 114, 113]⟩, .int .i64 0], .agg [.int .i64 0, .int .i64 0]], []⟩, []),
  (⟨64, [.str s0, .int .i64 96], [], .tuple [.agg [.int .i64 3, .int .i64 96, .int .i64 1, .str ⟨#[46]⟩, .int .i64 0], .agg [.int .i64 0, .int .i64 0]], []⟩, []),
  (⟨64, [.str s0, .int .i64 97], [], .tuple [.agg [.int .i64 1, .int .i64 97, .int .i64 1, .str ⟨#[109, 97, 115, 107]⟩, .int .i64 0], .agg [.int .i64 0, .int .i64 0]], []⟩, [])]
theorem k2 : AllT (fstsF g2) := batch ([]) (AllF.nil) g2 (by kernel_rfl)
end
end Go.Proofs.YtnllfdcaloilnaaGreat.meanKnown
