/- Calls over literal memory of ploverlaw17.MeanKnown, reckoned in the kernel: part 11. -/
import Derived.Test.YtnllfdcaloilnaaGreatRows
import Derived.WalkKit
import Derived.ProofKit
import Derived.OpenShut
import Derived.Below
import Derived.ChangeSame
import Derived.Laws.Externs
import Derived.Laws.LoneSync
import Derived.Test.YtnllfdcaloilnaaGreatMka
import Derived.Test.YtnllfdcaloilnaaGreatMk10
namespace Go.Proofs.YtnllfdcaloilnaaGreat.meanKnown
open Go.ChangeShapes Go.WideShapes Go.ChangeAt Go.RowKit
set_option linter.unusedVariables false

section
open Go.Ev
set_option linter.unusedSimpArgs false
set_option maxRecDepth 100000 in
def g52 : List (MemF × Bm) := [(⟨64, [.str s1, .int .i64 83], [], .tuple [.agg [.int .i64 2, .int .i64 83, .int .i64 1, .str ⟨#[50]⟩, .int .i64 2], .agg [.int .i64 0, .int .i64 0]], []⟩, []),
  (⟨64, [.str s1, .int .i64 84], [], .tuple [.agg [.int .i64 3, .int .i64 84, .int .i64 1, .str ⟨#[41]⟩, .int .i64 0], .agg [.int .i64 0, .int .i64 0]], []⟩, []),
  (⟨64, [.str s1, .int .i64 85], [], .tuple [.agg [.int .i64 3, .int .i64 85, .int .i64 1, .str ⟨#[59]⟩, .int .i64 0], .agg [.int .i64 0, .int .i64 0]], []⟩, []),
  (⟨64, [.str s1, .int .i64 87], [], .tuple [.agg [.int .i64 3, .int .i64 87, .int .i64 1, .str ⟨#[125]⟩, .int .i64 0], .agg [.int .i64 0, .int .i64 0]], []⟩, [])]
theorem k52 : AllT (fstsF g52) := batch ([]) (AllF.nil) g52 (by kernel_rfl)
set_option maxRecDepth 100000 in
def g53 : List (MemF × Bm) := [(⟨39, [.str s1], [], .tuple [.slice 0 0 44 44 (.some 5), .agg [.int .i64 0, .int .i64 0]], [h104]⟩, [(174, 0)])]
theorem k53 : AllT (fstsF g53) := batch (fstsF g49 ++ (fstsF g50 ++ (fstsF g51 ++ (fstsF g52 ++ ([]))))) (AllF.append k49 (AllF.append k50 (AllF.append k51 (AllF.append k52 (AllF.nil))))) g53 (by kernel_rfl)
end
end Go.Proofs.YtnllfdcaloilnaaGreat.meanKnown
