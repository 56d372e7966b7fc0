/- Calls over literal memory of ploverlaw17.MeanKnown, reckoned in the kernel: part 36. -/
import Derived.Test.YtnllfdcaloilnaaGreatRows
import Derived.WalkKit
import Derived.ProofKit
import Derived.OpenShut
import Derived.Below
import Derived.ChangeSame
import Derived.Laws.Externs
import Derived.Laws.LoneSync
import Derived.Test.YtnllfdcaloilnaaGreatMka
import Derived.Test.YtnllfdcaloilnaaGreatMk35
namespace Go.Proofs.YtnllfdcaloilnaaGreat.meanKnown
open Go.ChangeShapes Go.WideShapes Go.ChangeAt Go.RowKit
set_option linter.unusedVariables false

section
open Go.Ev
set_option linter.unusedSimpArgs false
set_option maxRecDepth 100000 in
def g184 : List (MemF × Bm) := [(⟨64, [.str s8, .int .i64 84], [], .tuple [.agg [.int .i64 2, .int .i64 84, .int .i64 1, .str ⟨#[49]⟩, .int .i64 1], .agg [.int .i64 0, .int .i64 0]], []⟩, []),
  (⟨64, [.str s8, .int .i64 85], [], .tuple [.agg [.int .i64 3, .int .i64 85, .int .i64 1, .str ⟨#[59]⟩, .int .i64 0], .agg [.int .i64 0, .int .i64 0]], []⟩, []),
  (⟨64, [.str s8, .int .i64 87], [], .tuple [.agg [.int .i64 1, .int .i64 87, .int .i64 1, .str ⟨#[115, 108, 101, 101, 112]⟩, .int .i64 0], .agg [.int .i64 0, .int .i64 0]], []⟩, []),
  (⟨64, [.str s8, .int .i64 92], [], .tuple [.agg [.int .i64 3, .int .i64 92, .int .i64 1, .str ⟨#[59]⟩, .int .i64 0], .agg [.int .i64 0, .int .i64 0]], []⟩, []),
  (⟨64, [.str s8, .int .i64 94], [], .tuple [.agg [.int .i64 1, .int .i64 94, .int .i64 1, .str ⟨#[104, 97, 108, 116]⟩, .int .i64 0], .agg [.int .i64 0, .int .i64 0]], []⟩, [])]
theorem k184 : AllT (fstsF g184) := batch ([]) (AllF.nil) g184 (by kernel_rfl)
set_option maxRecDepth 100000 in
def g185 : List (MemF × Bm) := [(⟨64, [.str s8, .int .i64 98], [], .tuple [.agg [.int .i64 3, .int .i64 98, .int .i64 1, .str ⟨#[59]⟩, .int .i64 0], .agg [.int .i64 0, .int .i64 0]], []⟩, []),
  (⟨64, [.str s8, .int .i64 100], [], .tuple [.agg [.int .i64 3, .int .i64 100, .int .i64 1, .str ⟨#[125]⟩, .int .i64 0], .agg [.int .i64 0, .int .i64 0]], []⟩, [])]
theorem k185 : AllT (fstsF g185) := batch ([]) (AllF.nil) g185 (by kernel_rfl)
set_option maxRecDepth 100000 in
def g186 : List (MemF × Bm) := [(⟨39, [.str s8], [], .tuple [.slice 0 0 38 38 (.some 5), .agg [.int .i64 0, .int .i64 0]], [h280]⟩, [(150, 0)])]
theorem k186 : AllT (fstsF g186) := batch (fstsF g181 ++ (fstsF g182 ++ (fstsF g183 ++ (fstsF g184 ++ (fstsF g185 ++ ([])))))) (AllF.append k181 (AllF.append k182 (AllF.append k183 (AllF.append k184 (AllF.append k185 (AllF.nil)))))) g186 (by kernel_rfl)
end
end Go.Proofs.YtnllfdcaloilnaaGreat.meanKnown
