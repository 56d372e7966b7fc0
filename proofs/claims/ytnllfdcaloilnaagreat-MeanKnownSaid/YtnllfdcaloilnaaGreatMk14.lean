/- Calls over literal memory of ploverlaw17.MeanKnown, reckoned in the kernel: part 14. -/
import Derived.Test.YtnllfdcaloilnaaGreatRows
import Derived.WalkKit
import Derived.ProofKit
import Derived.OpenShut
import Derived.Below
import Derived.ChangeSame
import Derived.Laws.Externs
import Derived.Laws.LoneSync
import Derived.Test.YtnllfdcaloilnaaGreatMka
import Derived.Test.YtnllfdcaloilnaaGreatMk7
import Derived.Test.YtnllfdcaloilnaaGreatMk11
import Derived.Test.YtnllfdcaloilnaaGreatMk13
namespace Go.Proofs.YtnllfdcaloilnaaGreat.meanKnown
open Go.ChangeShapes Go.WideShapes Go.ChangeAt Go.RowKit
set_option linter.unusedVariables false

section
open Go.Ev
set_option linter.unusedSimpArgs false
set_option maxRecDepth 100000 in
def g58 : List (MemF × Bm) := [(⟨18, [.ptr 0 0, .int .i64 4], [.cells [.slice 1 0 1 1 (.some 4), .int .i64 1, .slice 2 0 2 2 (.some 7), .int .i64 1, .nilslice, .ptr 3 0, .slice 4 0 1 1 .none, .int .u8 0, .int .u8 0, .int .u8 0, .int .i64 0, .int .u8 0, .int .u8 0, .int .u8 0, .int .u8 0, .int .u8 0, .int .u8 0, .int .u8 0, .int .u8 0, .int .i64 0, .int .u8 0, .int .u8 0, .int .u8 0, .int .u8 0, .int .u8 0, .int .u8 0, .int .u8 0, .int .u8 0, .bool false, .int .u8 0, .int .u8 0, .int .u16 0, .int .u16 0, .int .u16 0, .int .u16 0, .int .u16 0, .int .u16 0, .int .u8 0, .int .u8 0, .slice 5 0 1 1 (.some 5), .int .i64 0, .int .u8 0, .int .u8 0, .bool false, .int .u8 0, .int .i64 0, .nilslice, .int .i64 0, .int .i64 0, .int .i64 0, .int .i64 0, .int .i64 0, .int .i64 0, .int .i64 0, .int .i64 0, .int .i64 0, .int .i64 0, .int .i64 0, .int .i64 0, .int .i64 0, .int .i64 0, .int .i64 0, .int .i64 0] 87, h109, h110, h56, .cells [.int .i32 0] 21, h111, h112, h113, h114, .cells [] 21, h115, h116, h117, h118], .int .i64 3, [.cells [.slice 1 0 1 1 (.some 4), .int .i64 1, .slice 2 0 2 2 (.some 7), .int .i64 1, .nilslice, .ptr 3 0, .slice 4 0 1 1 .none, .int .u8 0, .int .u8 0, .int .u8 0, .int .i64 0, .int .u8 0, .int .u8 0, .int .u8 0, .int .u8 0, .int .u8 0, .int .u8 0, .int .u8 0, .int .u8 0, .int .i64 0, .int .u8 0, .int .u8 0, .int .u8 0, .int .u8 0, .int .u8 0, .int .u8 0, .int .u8 0, .int .u8 0, .bool false, .int .u8 0, .int .u8 0, .int .u16 0, .int .u16 0, .int .u16 0, .int .u16 0, .int .u16 0, .int .u16 0, .int .u8 0, .int .u8 0, .slice 14 0 0 0 .none, .int .i64 0, .int .u8 0, .int .u8 0, .bool false, .int .u8 0, .int .i64 1, .nilslice, .int .i64 0, .int .i64 0, .int .i64 0, .int .i64 0, .int .i64 0, .int .i64 0, .int .i64 0, .int .i64 0, .int .i64 0, .int .i64 0, .int .i64 0, .int .i64 0, .int .i64 0, .int .i64 0, .int .i64 0, .int .i64 0] 87, h109, h110, h119, .cells [.int .i32 42] 21, h111, h112, h113, h114, .cells [] 21, h115, h116, h117, h118, .cells [.int .i64 1, .int .i64 1, .int .i64 (-1), .bool false, .slice 9 0 0 0 .none, .int .i64 0, .int .i64 0, .int .i64 (-1), .bool false, .slice 15 0 2 2 .none] 97, .cells [.int .i32 40, .int .i32 2] 21]⟩, [(0, 0), (1, 0), (2, 0), (3, 0), (4, 0), (5, 0), (6, 0), (7, 0), (8, 0), (9, 0), (10, 0), (11, 0), (12, 0), (13, 0), (33, 0), (31, 0)])]
theorem k58 : AllT (fstsF g58) := batch ([]) (AllF.nil) g58 (by kernel_rfl)
set_option maxRecDepth 100000 in
def g59 : List (MemF × Bm) := [(⟨4, [.str s1, .nilslice, .int .i64 4], [], .ptr 0 0, [.cells [.slice 1 0 1 1 (.some 4), .int .i64 1, .slice 2 0 2 2 (.some 7), .int .i64 1, .nilslice, .ptr 3 0, .slice 4 0 1 1 .none, .int .u8 0, .int .u8 0, .int .u8 0, .int .i64 0, .int .u8 0, .int .u8 0, .int .u8 0, .int .u8 0, .int .u8 0, .int .u8 0, .int .u8 0, .int .u8 0, .int .i64 0, .int .u8 0, .int .u8 0, .int .u8 0, .int .u8 0, .int .u8 0, .int .u8 0, .int .u8 0, .int .u8 0, .bool false, .int .u8 0, .int .u8 0, .int .u16 0, .int .u16 0, .int .u16 0, .int .u16 0, .int .u16 0, .int .u16 0, .int .u8 0, .int .u8 0, .slice 5 0 0 0 .none, .int .i64 0, .int .u8 0, .int .u8 0, .bool false, .int .u8 0, .int .i64 1, .nilslice, .int .i64 0, .int .i64 0, .int .i64 0, .int .i64 0, .int .i64 0, .int .i64 0, .int .i64 0, .int .i64 0, .int .i64 0, .int .i64 0, .int .i64 0, .int .i64 0, .int .i64 0, .int .i64 0, .int .i64 0, .int .i64 0] 87, h109, h110, h119, .cells [.int .i32 42] 21, .cells [.int .i64 1, .int .i64 1, .int .i64 (-1), .bool false, .slice 9 0 0 0 .none, .int .i64 0, .int .i64 0, .int .i64 (-1), .bool false, .slice 10 0 2 2 .none] 97, h112, .cells [.int .i64 9, .int .i64 1, .int .i64 (-1), .int .i64 (-1), .int .i64 0, .int .i64 0, .slice 11 0 1 1 (.some 8), .int .i64 0, .int .i64 0, .int .i64 (-1), .int .i64 (-1), .int .i64 10, .int .i64 1, .int .i64 (-1), .int .i64 (-1), .int .i64 0, .int .i64 0, .nilslice, .int .i64 0, .int .i64 0, .int .i64 (-1), .int .i64 (-1)] 100, .cells [.int .i64 1, .int .i64 1, .int .i64 (-1), .int .i64 0, .int .i64 0, .int .i64 2, .slice 12 0 2 2 (.some 8), .int .i64 0, .int .i64 0, .int .i64 1, .int .i64 (-1), .int .i64 10, .int .i64 1, .int .i64 (-1), .int .i64 (-1), .int .i64 0, .int .i64 0, .nilslice, .int .i64 0, .int .i64 0, .int .i64 (-1), .int .i64 (-1)] 100, .cells [] 21, .cells [.int .i32 40, .int .i32 2] 21, .cells [.int .i64 12, .int .i64 49, .str ⟨#[]⟩, .str ⟨#[]⟩, .int .i64 0, .int .i64 2, .int .i64 0, .slice 13 0 2 2 (.some 8)] 150, h116, .cells [.int .i64 26, .int .i64 47, .str ⟨#[97]⟩, .str ⟨#[]⟩, .int .i64 0, .int .i64 2, .int .i64 0, .nilslice, .int .i64 8, .int .i64 51, .str ⟨#[]⟩, .str ⟨#[]⟩, .int .i64 0, .int .i64 2, .int .i64 0, .slice 14 0 1 1 (.some 8)] 150, h118]⟩, [(220, 0), (25, 0), (213, 0), (218, 0), (219, 0), (227, 0), (193, 0), (192, 0), (211, 0), (224, 0), (228, 0), (159, 0), (208, 0), (156, 0), (153, 0)])]
theorem k59 : AllT (fstsF g59) := batch (fstsF g25 ++ (fstsF g53 ++ (fstsF g57 ++ (fstsF g58 ++ ([]))))) (AllF.append k25 (AllF.append k53 (AllF.append k57 (AllF.append k58 (AllF.nil))))) g59 (by kernel_rfl)
set_option maxRecDepth 100000 in
def g60 : List (MemF × Bm) := [(⟨64, [.str s2, .int .i64 32], [], .tuple [.agg [.int .i64 3, .int .i64 32, .int .i64 1, .str ⟨#[61]⟩, .int .i64 0], .agg [.int .i64 0, .int .i64 0]], []⟩, []),
  (⟨64, [.str s2, .int .i64 34], [], .tuple [.agg [.int .i64 2, .int .i64 34, .int .i64 1, .str ⟨#[49]⟩, .int .i64 1], .agg [.int .i64 0, .int .i64 0]], []⟩, []),
  (⟨64, [.str s2, .int .i64 35], [], .tuple [.agg [.int .i64 3, .int .i64 35, .int .i64 1, .str ⟨#[59]⟩, .int .i64 0], .agg [.int .i64 0, .int .i64 0]], []⟩, []),
  (⟨64, [.str s2, .int .i64 37], [], .tuple [.agg [.int .i64 3, .int .i64 37, .int .i64 1, .str ⟨#[125]⟩, .int .i64 0], .agg [.int .i64 0, .int .i64 0]], []⟩, [])]
theorem k60 : AllT (fstsF g60) := batch ([]) (AllF.nil) g60 (by kernel_rfl)
end
end Go.Proofs.YtnllfdcaloilnaaGreat.meanKnown
