/- Calls over literal memory of ploverlaw17.MeanKnown, reckoned in the kernel: part 17. -/
import Derived.Test.YtnllfdcaloilnaaGreatRows
import Derived.WalkKit
import Derived.ProofKit
import Derived.OpenShut
import Derived.Below
import Derived.ChangeSame
import Derived.Laws.Externs
import Derived.Laws.LoneSync
import Derived.Test.YtnllfdcaloilnaaGreatMka
import Derived.Test.YtnllfdcaloilnaaGreatMk7
import Derived.Test.YtnllfdcaloilnaaGreatMk15
import Derived.Test.YtnllfdcaloilnaaGreatMk16
namespace Go.Proofs.YtnllfdcaloilnaaGreat.meanKnown
open Go.ChangeShapes Go.WideShapes Go.ChangeAt Go.RowKit
set_option linter.unusedVariables false

section
open Go.Ev
set_option linter.unusedSimpArgs false
set_option maxRecDepth 100000 in
def g69 : List (MemF × Bm) := [(⟨18, [.ptr 0 0, .int .i64 5], [h137, h133, h138, h56, .cells [.int .i32 0, .int .i32 0] 21, h139, h140, .cells [] 21, h132], .int .i64 1, [h141, h133, h138, h142, .cells [.int .i32 0, .int .i32 0] 21, h139, h140, .cells [] 21, h132]⟩, [(0, 0), (1, 0), (2, 0), (3, 0), (4, 0), (5, 0), (6, 0), (7, 0), (8, 0)])]
theorem k69 : AllT (fstsF g69) := batch ([]) (AllF.nil) g69 (by kernel_rfl)
set_option maxRecDepth 100000 in
def g70 : List (MemF × Bm) := [(⟨4, [.str s2, .nilslice, .int .i64 5], [], .ptr 0 0, [h141, h133, h138, h142, .cells [.int .i32 0, .int .i32 0] 21, h139, h140, .cells [] 21, h132]⟩, [(96, 0), (26, 0), (92, 0), (97, 0), (98, 0), (99, 0), (89, 0), (100, 0), (88, 0)])]
theorem k70 : AllT (fstsF g70) := batch (fstsF g25 ++ (fstsF g61 ++ (fstsF g63 ++ (fstsF g64 ++ (fstsF g65 ++ (fstsF g66 ++ (fstsF g67 ++ (fstsF g68 ++ (fstsF g69 ++ ([])))))))))) (AllF.append k25 (AllF.append k61 (AllF.append k63 (AllF.append k64 (AllF.append k65 (AllF.append k66 (AllF.append k67 (AllF.append k68 (AllF.append k69 (AllF.nil)))))))))) g70 (by kernel_rfl)
set_option maxRecDepth 100000 in
def g71 : List (MemF × Bm) := [(⟨64, [.str s3, .int .i64 31], [], .tuple [.agg [.int .i64 2, .int .i64 31, .int .i64 1, .str ⟨#[48]⟩, .int .i64 0], .agg [.int .i64 0, .int .i64 0]], []⟩, []),
  (⟨64, [.str s3, .int .i64 32], [], .tuple [.agg [.int .i64 3, .int .i64 32, .int .i64 1, .str ⟨#[93]⟩, .int .i64 0], .agg [.int .i64 0, .int .i64 0]], []⟩, []),
  (⟨64, [.str s3, .int .i64 34], [], .tuple [.agg [.int .i64 3, .int .i64 34, .int .i64 1, .str ⟨#[45]⟩, .int .i64 0], .agg [.int .i64 0, .int .i64 0]], []⟩, []),
  (⟨64, [.str s3, .int .i64 36], [], .tuple [.agg [.int .i64 2, .int .i64 36, .int .i64 1, .str ⟨#[49]⟩, .int .i64 1], .agg [.int .i64 0, .int .i64 0]], []⟩, []),
  (⟨64, [.str s3, .int .i64 37], [], .tuple [.agg [.int .i64 3, .int .i64 37, .int .i64 1, .str ⟨#[93]⟩, .int .i64 0], .agg [.int .i64 0, .int .i64 0]], []⟩, []),
  (⟨64, [.str s3, .int .i64 39], [], .tuple [.agg [.int .i64 3, .int .i64 39, .int .i64 1, .str ⟨#[61]⟩, .int .i64 0], .agg [.int .i64 0, .int .i64 0]], []⟩, []),
  (⟨64, [.str s3, .int .i64 41], [], .tuple [.agg [.int .i64 2, .int .i64 41, .int .i64 1, .str ⟨#[49]⟩, .int .i64 1], .agg [.int .i64 0, .int .i64 0]], []⟩, []),
  (⟨64, [.str s3, .int .i64 43], [], .tuple [.agg [.int .i64 3, .int .i64 43, .int .i64 1, .str ⟨#[47]⟩, .int .i64 0], .agg [.int .i64 0, .int .i64 0]], []⟩, []),
  (⟨64, [.str s3, .int .i64 45], [], .tuple [.agg [.int .i64 2, .int .i64 45, .int .i64 1, .str ⟨#[48]⟩, .int .i64 0], .agg [.int .i64 0, .int .i64 0]], []⟩, [])]
theorem k71 : AllT (fstsF g71) := batch ([]) (AllF.nil) g71 (by kernel_rfl)
set_option maxRecDepth 100000 in
def g72 : List (MemF × Bm) := [(⟨64, [.str s3, .int .i64 46], [], .tuple [.agg [.int .i64 3, .int .i64 46, .int .i64 1, .str ⟨#[59]⟩, .int .i64 0], .agg [.int .i64 0, .int .i64 0]], []⟩, []),
  (⟨64, [.str s3, .int .i64 48], [], .tuple [.agg [.int .i64 3, .int .i64 48, .int .i64 1, .str ⟨#[125]⟩, .int .i64 0], .agg [.int .i64 0, .int .i64 0]], []⟩, [])]
theorem k72 : AllT (fstsF g72) := batch ([]) (AllF.nil) g72 (by kernel_rfl)
end
end Go.Proofs.YtnllfdcaloilnaaGreat.meanKnown
