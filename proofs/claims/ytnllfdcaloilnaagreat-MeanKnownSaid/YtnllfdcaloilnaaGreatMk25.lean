/- Calls over literal memory of ploverlaw17.MeanKnown, reckoned in the kernel: part 25. -/
import Derived.Test.YtnllfdcaloilnaaGreatRows
import Derived.WalkKit
import Derived.ProofKit
import Derived.OpenShut
import Derived.Below
import Derived.ChangeSame
import Derived.Laws.Externs
import Derived.Laws.LoneSync
import Derived.Test.YtnllfdcaloilnaaGreatMka
import Derived.Test.YtnllfdcaloilnaaGreatMk7
import Derived.Test.YtnllfdcaloilnaaGreatMk21
import Derived.Test.YtnllfdcaloilnaaGreatMk24
namespace Go.Proofs.YtnllfdcaloilnaaGreat.meanKnown
open Go.ChangeShapes Go.WideShapes Go.ChangeAt Go.RowKit
set_option linter.unusedVariables false

section
open Go.Ev
set_option linter.unusedSimpArgs false
set_option maxRecDepth 100000 in
def g135 : List (MemF × Bm) := [(⟨4, [.str s4, .slice 0 0 1 1 .none, .int .i64 50], [.cells [.int .i64 1, .int .i64 0, .int .u8 1] 25], .ptr 1 0, [.cells [.int .i64 1, .int .i64 0, .int .u8 1] 25, .cells [.nilslice, .int .i64 0, .slice 2 0 2 2 (.some 7), .int .i64 1, .slice 3 0 1 1 (.some 3), .ptr 4 0, .slice 5 0 0 0 .none, .int .u8 0, .int .u8 1, .int .u8 0, .int .i64 0, .int .u8 0, .int .u8 0, .int .u8 0, .int .u8 0, .int .u8 0, .int .u8 0, .int .u8 0, .int .u8 0, .int .i64 0, .int .u8 0, .int .u8 0, .int .u8 0, .int .u8 0, .int .u8 0, .int .u8 0, .int .u8 0, .int .u8 0, .bool false, .int .u8 0, .int .u8 0, .int .u16 0, .int .u16 0, .int .u16 0, .int .u16 0, .int .u16 0, .int .u16 0, .int .u8 0, .int .u8 0, .slice 6 0 1 1 (.some 5), .int .i64 1, .int .u8 1, .int .u8 0, .bool false, .int .u8 0, .int .i64 0, .nilslice, .int .i64 1, .int .i64 0, .int .i64 0, .int .i64 0, .int .i64 0, .int .i64 0, .int .i64 0, .int .i64 0, .int .i64 0, .int .i64 0, .int .i64 0, .int .i64 0, .int .i64 0, .int .i64 0, .int .i64 0, .int .i64 0] 87, .cells [.str ⟨#[111, 110, 32, 48]⟩, .int .i64 0, .int .i64 1, .int .i64 0, .int .i64 0, .nilslice, .slice 7 0 1 1 (.some 11), .str ⟨#[109, 97, 105, 110]⟩, .int .i64 (-1), .int .i64 0, .int .i64 0, .int .i64 0, .nilslice, .slice 8 0 4 4 (.some 11)] 94, .cells [.int .i64 1, .int .i64 0, .int .u8 1] 25, .cells [.int .u8 1, .int .u8 0, .int .u8 0, .int .i64 0, .slice 9 3 0 0 (.some 3), .int .i64 50] 134, .cells [] 21, .cells [.int .i64 1, .int .i64 1, .int .i64 (-1), .bool false, .slice 10 0 0 0 .none] 97, h169, h170, .cells [.int .i64 1, .int .i64 0, .int .u8 1] 25, .cells [] 21]⟩, [(0, 0), (125, 0), (121, 0), (126, 0), (127, 0), (128, 0), (129, 0), (103, 0), (117, 0), (130, 0), (131, 0)])]
theorem k135 : AllT (fstsF g135) := batch (fstsF g25 ++ (fstsF g84 ++ (fstsF g86 ++ (fstsF g87 ++ (fstsF g88 ++ (fstsF g89 ++ (fstsF g90 ++ (fstsF g134 ++ ([]))))))))) (AllF.append k25 (AllF.append k84 (AllF.append k86 (AllF.append k87 (AllF.append k88 (AllF.append k89 (AllF.append k90 (AllF.append k134 (AllF.nil))))))))) g135 (by kernel_rfl)
set_option maxRecDepth 100000 in
def g136 : List (MemF × Bm) := [(⟨64, [.str s5, .int .i64 28], [], .tuple [.agg [.int .i64 1, .int .i64 28, .int .i64 1, .str ⟨#[116, 48]⟩, .int .i64 0], .agg [.int .i64 0, .int .i64 0]], []⟩, []),
  (⟨64, [.str s5, .int .i64 30], [], .tuple [.agg [.int .i64 3, .int .i64 30, .int .i64 1, .str ⟨#[46]⟩, .int .i64 0], .agg [.int .i64 0, .int .i64 0]], []⟩, []),
  (⟨64, [.str s5, .int .i64 31], [], .tuple [.agg [.int .i64 1, .int .i64 31, .int .i64 1, .str ⟨#[99, 111, 109, 112]⟩, .int .i64 0], .agg [.int .i64 0, .int .i64 0]], []⟩, []),
  (⟨64, [.str s5, .int .i64 36], [], .tuple [.agg [.int .i64 3, .int .i64 36, .int .i64 1, .str ⟨#[61]⟩, .int .i64 0], .agg [.int .i64 0, .int .i64 0]], []⟩, []),
  (⟨64, [.str s5, .int .i64 38], [], .tuple [.agg [.int .i64 2, .int .i64 38, .int .i64 1, .str ⟨#[54, 53, 53, 51, 53]⟩, .int .i64 65535], .agg [.int .i64 0, .int .i64 0]], []⟩, [])]
theorem k136 : AllT (fstsF g136) := batch ([]) (AllF.nil) g136 (by kernel_rfl)
set_option maxRecDepth 100000 in
def g137 : List (MemF × Bm) := [(⟨64, [.str s5, .int .i64 43], [], .tuple [.agg [.int .i64 3, .int .i64 43, .int .i64 1, .str ⟨#[59]⟩, .int .i64 0], .agg [.int .i64 0, .int .i64 0]], []⟩, []),
  (⟨64, [.str s5, .int .i64 45], [], .tuple [.agg [.int .i64 1, .int .i64 45, .int .i64 1, .str ⟨#[105, 110]⟩, .int .i64 0], .agg [.int .i64 0, .int .i64 0]], []⟩, []),
  (⟨64, [.str s5, .int .i64 48], [], .tuple [.agg [.int .i64 1, .int .i64 48, .int .i64 1, .str ⟨#[103]⟩, .int .i64 0], .agg [.int .i64 0, .int .i64 0]], []⟩, []),
  (⟨64, [.str s5, .int .i64 50], [], .tuple [.agg [.int .i64 3, .int .i64 50, .int .i64 1, .str ⟨#[61]⟩, .int .i64 0], .agg [.int .i64 0, .int .i64 0]], []⟩, []),
  (⟨64, [.str s5, .int .i64 52], [], .tuple [.agg [.int .i64 1, .int .i64 52, .int .i64 1, .str ⟨#[116, 48]⟩, .int .i64 0], .agg [.int .i64 0, .int .i64 0]], []⟩, [])]
theorem k137 : AllT (fstsF g137) := batch ([]) (AllF.nil) g137 (by kernel_rfl)
end
end Go.Proofs.YtnllfdcaloilnaaGreat.meanKnown
