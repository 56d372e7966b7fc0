/- Calls over literal memory of ploverlaw17.MeanKnown, reckoned in the kernel: part 28. -/
import Derived.Test.YtnllfdcaloilnaaGreatRows
import Derived.WalkKit
import Derived.ProofKit
import Derived.OpenShut
import Derived.Below
import Derived.ChangeSame
import Derived.Laws.Externs
import Derived.Laws.LoneSync
import Derived.Test.YtnllfdcaloilnaaGreatMka
import Derived.Test.YtnllfdcaloilnaaGreatMk7
import Derived.Test.YtnllfdcaloilnaaGreatMk26
import Derived.Test.YtnllfdcaloilnaaGreatMk27
namespace Go.Proofs.YtnllfdcaloilnaaGreat.meanKnown
open Go.ChangeShapes Go.WideShapes Go.ChangeAt Go.RowKit
set_option linter.unusedVariables false

section
open Go.Ev
set_option linter.unusedSimpArgs false
set_option maxRecDepth 100000 in
def g147 : List (MemF × Bm) := [(⟨4, [.str s5, .nilslice, .int .i64 9], [], .ptr 0 0, [.cells [.slice 1 0 1 1 (.some 4), .int .i64 1, .slice 2 0 1 1 (.some 7), .int .i64 0, .nilslice, .ptr 3 0, .slice 4 0 1 1 .none, .int .u8 0, .int .u8 0, .int .u8 0, .int .i64 0, .int .u8 0, .int .u8 0, .int .u8 0, .int .u8 0, .int .u8 0, .int .u8 0, .int .u8 0, .int .u8 0, .int .i64 0, .int .u8 0, .int .u8 0, .int .u8 0, .int .u8 0, .int .u8 0, .int .u8 0, .int .u8 0, .int .u8 0, .bool false, .int .u8 0, .int .u8 0, .int .u16 0, .int .u16 65535, .int .u16 0, .int .u16 0, .int .u16 0, .int .u16 0, .int .u8 0, .int .u8 0, .slice 5 0 0 0 .none, .int .i64 0, .int .u8 0, .int .u8 0, .bool false, .int .u8 0, .int .i64 1, .slice 6 0 1 1 (.some 4), .int .i64 0, .int .i64 0, .int .i64 0, .int .i64 0, .int .i64 0, .int .i64 0, .int .i64 0, .int .i64 0, .int .i64 0, .int .i64 0, .int .i64 0, .int .i64 0, .int .i64 0, .int .i64 0, .int .i64 0, .int .i64 0] 87, h23, .cells [.str ⟨#[109, 97, 105, 110]⟩, .int .i64 (-1), .int .i64 0, .int .i64 0, .int .i64 0, .nilslice, .slice 7 0 3 3 (.some 11)] 94, h119, .cells [.int .i32 (-1)] 21, .cells [.int .i64 0, .int .i64 2, .int .i64 (-1), .bool false, .slice 8 0 0 0 .none] 97, h232, .cells [.int .i64 3, .int .i64 1, .int .i64 (-1), .int .i64 (-1), .int .i64 0, .int .i64 0, .slice 9 0 1 1 (.some 8), .int .i64 0, .int .i64 7, .int .i64 1, .int .i64 (-1), .int .i64 2, .int .i64 1, .int .i64 (-1), .int .i64 0, .int .i64 0, .int .i64 1, .nilslice, .int .i64 0, .int .i64 7, .int .i64 2, .int .i64 (-1), .int .i64 10, .int .i64 1, .int .i64 (-1), .int .i64 (-1), .int .i64 0, .int .i64 0, .nilslice, .int .i64 0, .int .i64 0, .int .i64 (-1), .int .i64 (-1)] 100, .cells [] 21, h227]⟩, [(66, 0), (19, 0), (62, 0), (67, 0), (68, 0), (69, 0), (71, 0), (60, 0), (70, 0), (49, 0)])]
theorem k147 : AllT (fstsF g147) := batch (fstsF g25 ++ (fstsF g139 ++ (fstsF g141 ++ (fstsF g142 ++ (fstsF g143 ++ (fstsF g144 ++ (fstsF g145 ++ (fstsF g146 ++ ([]))))))))) (AllF.append k25 (AllF.append k139 (AllF.append k141 (AllF.append k142 (AllF.append k143 (AllF.append k144 (AllF.append k145 (AllF.append k146 (AllF.nil))))))))) g147 (by kernel_rfl)
set_option maxRecDepth 100000 in
def g148 : List (MemF × Bm) := [(⟨64, [.str s6, .int .i64 44], [], .tuple [.agg [.int .i64 1, .int .i64 44, .int .i64 1, .str ⟨#[105, 114, 113]⟩, .int .i64 0], .agg [.int .i64 0, .int .i64 0]], []⟩, []),
  (⟨64, [.str s6, .int .i64 47], [], .tuple [.agg [.int .i64 3, .int .i64 47, .int .i64 1, .str ⟨#[46]⟩, .int .i64 0], .agg [.int .i64 0, .int .i64 0]], []⟩, []),
  (⟨64, [.str s6, .int .i64 48], [], .tuple [.agg [.int .i64 1, .int .i64 48, .int .i64 1, .str ⟨#[109, 97, 115, 107]⟩, .int .i64 0], .agg [.int .i64 0, .int .i64 0]], []⟩, []),
  (⟨64, [.str s6, .int .i64 53], [], .tuple [.agg [.int .i64 3, .int .i64 53, .int .i64 1, .str ⟨#[61]⟩, .int .i64 0], .agg [.int .i64 0, .int .i64 0]], []⟩, []),
  (⟨64, [.str s6, .int .i64 55], [], .tuple [.agg [.int .i64 2, .int .i64 55, .int .i64 1, .str ⟨#[49]⟩, .int .i64 1], .agg [.int .i64 0, .int .i64 0]], []⟩, []),
  (⟨64, [.str s6, .int .i64 56], [], .tuple [.agg [.int .i64 3, .int .i64 56, .int .i64 1, .str ⟨#[59]⟩, .int .i64 0], .agg [.int .i64 0, .int .i64 0]], []⟩, []),
  (⟨64, [.str s6, .int .i64 58], [], .tuple [.agg [.int .i64 1, .int .i64 58, .int .i64 1, .str ⟨#[119, 104, 105, 108, 101]⟩, .int .i64 0], .agg [.int .i64 0, .int .i64 0]], []⟩, []),
  (⟨64, [.str s6, .int .i64 64], [], .tuple [.agg [.int .i64 3, .int .i64 64, .int .i64 1, .str ⟨#[40]⟩, .int .i64 0], .agg [.int .i64 0, .int .i64 0]], []⟩, [])]
theorem k148 : AllT (fstsF g148) := batch ([]) (AllF.nil) g148 (by kernel_rfl)
set_option maxRecDepth 100000 in
def g149 : List (MemF × Bm) := [(⟨64, [.str s6, .int .i64 65], [], .tuple [.agg [.int .i64 2, .int .i64 65, .int .i64 1, .str ⟨#[49]⟩, .int .i64 1], .agg [.int .i64 0, .int .i64 0]], []⟩, []),
  (⟨64, [.str s6, .int .i64 66], [], .tuple [.agg [.int .i64 3, .int .i64 66, .int .i64 1, .str ⟨#[41]⟩, .int .i64 0], .agg [.int .i64 0, .int .i64 0]], []⟩, []),
  (⟨64, [.str s6, .int .i64 68], [], .tuple [.agg [.int .i64 3, .int .i64 68, .int .i64 1, .str ⟨#[123]⟩, .int .i64 0], .agg [.int .i64 0, .int .i64 0]], []⟩, []),
  (⟨64, [.str s6, .int .i64 70], [], .tuple [.agg [.int .i64 1, .int .i64 70, .int .i64 1, .str ⟨#[111, 117, 116]⟩, .int .i64 0], .agg [.int .i64 0, .int .i64 0]], []⟩, []),
  (⟨64, [.str s6, .int .i64 74], [], .tuple [.agg [.int .i64 1, .int .i64 74, .int .i64 1, .str ⟨#[105, 114, 113]⟩, .int .i64 0], .agg [.int .i64 0, .int .i64 0]], []⟩, []),
  (⟨64, [.str s6, .int .i64 77], [], .tuple [.agg [.int .i64 3, .int .i64 77, .int .i64 1, .str ⟨#[46]⟩, .int .i64 0], .agg [.int .i64 0, .int .i64 0]], []⟩, []),
  (⟨64, [.str s6, .int .i64 78], [], .tuple [.agg [.int .i64 1, .int .i64 78, .int .i64 1, .str ⟨#[112, 101, 110, 100]⟩, .int .i64 0], .agg [.int .i64 0, .int .i64 0]], []⟩, [])]
theorem k149 : AllT (fstsF g149) := batch ([]) (AllF.nil) g149 (by kernel_rfl)
end
end Go.Proofs.YtnllfdcaloilnaaGreat.meanKnown
