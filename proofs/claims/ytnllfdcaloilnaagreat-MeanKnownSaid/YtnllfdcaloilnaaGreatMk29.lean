/- Calls over literal memory of ploverlaw17.MeanKnown, reckoned in the kernel: part 29. -/
import Derived.Test.YtnllfdcaloilnaaGreatRows
import Derived.WalkKit
import Derived.ProofKit
import Derived.OpenShut
import Derived.Below
import Derived.ChangeSame
import Derived.Laws.Externs
import Derived.Laws.LoneSync
import Derived.Test.YtnllfdcaloilnaaGreatMka
import Derived.Test.YtnllfdcaloilnaaGreatMk28
namespace Go.Proofs.YtnllfdcaloilnaaGreat.meanKnown
open Go.ChangeShapes Go.WideShapes Go.ChangeAt Go.RowKit
set_option linter.unusedVariables false

section
open Go.Ev
set_option linter.unusedSimpArgs false
set_option maxRecDepth 100000 in
def g150 : List (MemF × Bm) := [(⟨64, [.str s6, .int .i64 83], [], .tuple [.agg [.int .i64 3, .int .i64 83, .int .i64 1, .str ⟨#[61]⟩, .int .i64 0], .agg [.int .i64 0, .int .i64 0]], []⟩, []),
  (⟨64, [.str s6, .int .i64 85], [], .tuple [.agg [.int .i64 2, .int .i64 85, .int .i64 1, .str ⟨#[49]⟩, .int .i64 1], .agg [.int .i64 0, .int .i64 0]], []⟩, []),
  (⟨64, [.str s6, .int .i64 86], [], .tuple [.agg [.int .i64 3, .int .i64 86, .int .i64 1, .str ⟨#[59]⟩, .int .i64 0], .agg [.int .i64 0, .int .i64 0]], []⟩, []),
  (⟨64, [.str s6, .int .i64 88], [], .tuple [.agg [.int .i64 3, .int .i64 88, .int .i64 1, .str ⟨#[125]⟩, .int .i64 0], .agg [.int .i64 0, .int .i64 0]], []⟩, []),
  (⟨64, [.str s6, .int .i64 90], [], .tuple [.agg [.int .i64 3, .int .i64 90, .int .i64 1, .str ⟨#[125]⟩, .int .i64 0], .agg [.int .i64 0, .int .i64 0]], []⟩, [])]
theorem k150 : AllT (fstsF g150) := batch ([]) (AllF.nil) g150 (by kernel_rfl)
set_option maxRecDepth 100000 in
def g151 : List (MemF × Bm) := [(⟨39, [.str s6], [], .tuple [.slice 0 0 35 35 (.some 5), .agg [.int .i64 0, .int .i64 0]], [h233]⟩, [(138, 0)])]
theorem k151 : AllT (fstsF g151) := batch (fstsF g148 ++ (fstsF g149 ++ (fstsF g150 ++ ([])))) (AllF.append k148 (AllF.append k149 (AllF.append k150 (AllF.nil)))) g151 (by kernel_rfl)
end
end Go.Proofs.YtnllfdcaloilnaaGreat.meanKnown
