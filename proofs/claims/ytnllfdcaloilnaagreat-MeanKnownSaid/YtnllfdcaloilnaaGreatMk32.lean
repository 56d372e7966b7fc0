/- Calls over literal memory of ploverlaw17.MeanKnown, reckoned in the kernel: part 32. -/
import Derived.Test.YtnllfdcaloilnaaGreatRows
import Derived.WalkKit
import Derived.ProofKit
import Derived.OpenShut
import Derived.Below
import Derived.ChangeSame
import Derived.Laws.Externs
import Derived.Laws.LoneSync
import Derived.Test.YtnllfdcaloilnaaGreatMka
import Derived.Test.YtnllfdcaloilnaaGreatMk7
import Derived.Test.YtnllfdcaloilnaaGreatMk29
import Derived.Test.YtnllfdcaloilnaaGreatMk31
namespace Go.Proofs.YtnllfdcaloilnaaGreat.meanKnown
open Go.ChangeShapes Go.WideShapes Go.ChangeAt Go.RowKit
set_option linter.unusedVariables false

section
open Go.Ev
set_option linter.unusedSimpArgs false
set_option maxRecDepth 100000 in
def g167 : List (MemF × Bm) := [(⟨18, [.ptr 0 0, .int .i64 7], [.cells [.nilslice, .int .i64 0, .slice 1 0 2 2 (.some 7), .int .i64 1, .nilslice, .ptr 2 0, .slice 3 0 0 0 .none, .int .u8 0, .int .u8 0, .int .u8 0, .int .i64 0, .int .u8 0, .int .u8 0, .int .u8 0, .int .u8 0, .int .u8 0, .int .u8 0, .int .u8 0, .int .u8 0, .int .i64 0, .int .u8 0, .int .u8 0, .int .u8 0, .int .u8 0, .int .u8 0, .int .u8 0, .int .u8 0, .int .u8 0, .bool false, .int .u8 0, .int .u8 0, .int .u16 0, .int .u16 0, .int .u16 0, .int .u16 0, .int .u16 0, .int .u16 0, .int .u8 0, .int .u8 0, .slice 4 0 1 1 (.some 5), .int .i64 0, .int .u8 0, .int .u8 0, .bool false, .int .u8 0, .int .i64 0, .nilslice, .int .i64 1, .int .i64 0, .int .i64 0, .int .i64 0, .int .i64 0, .int .i64 0, .int .i64 0, .int .i64 0, .int .i64 0, .int .i64 0, .int .i64 0, .int .i64 0, .int .i64 0, .int .i64 0, .int .i64 0, .int .i64 0] 87, h261, h56, .cells [] 21, .cells [.int .i64 1, .int .i64 0, .int .i64 (-1), .bool false, .slice 7 0 0 0 .none] 97, h252, h262, .cells [] 21, h243, h244, h246], .int .i64 7, [.cells [.nilslice, .int .i64 0, .slice 1 0 2 2 (.some 7), .int .i64 1, .nilslice, .ptr 2 0, .slice 3 0 0 0 .none, .int .u8 0, .int .u8 0, .int .u8 0, .int .i64 0, .int .u8 0, .int .u8 0, .int .u8 0, .int .u8 0, .int .u8 0, .int .u8 0, .int .u8 0, .int .u8 0, .int .i64 0, .int .u8 0, .int .u8 0, .int .u8 0, .int .u8 0, .int .u8 0, .int .u8 0, .int .u8 0, .int .u8 0, .bool false, .int .u8 0, .int .u8 0, .int .u16 0, .int .u16 0, .int .u16 0, .int .u16 0, .int .u16 0, .int .u16 0, .int .u8 1, .int .u8 1, .slice 11 0 1 1 .none, .int .i64 0, .int .u8 0, .int .u8 0, .bool false, .int .u8 0, .int .i64 0, .slice 12 0 5 5 (.some 4), .int .i64 1, .int .i64 0, .int .i64 0, .int .i64 0, .int .i64 0, .int .i64 0, .int .i64 0, .int .i64 0, .int .i64 0, .int .i64 0, .int .i64 0, .int .i64 0, .int .i64 0, .int .i64 0, .int .i64 0, .int .i64 0] 87, h261, h66, .cells [] 21, .cells [.int .i64 1, .int .i64 1, .int .i64 (-1), .bool false, .slice 7 0 0 0 .none] 97, h252, h262, .cells [] 21, h243, h244, h246, .cells [.int .i64 1, .int .i64 1, .int .i64 (-1), .bool false, .slice 7 0 0 0 .none, .int .i64 0, .int .i64 0, .int .i64 0, .bool false, .slice 13 0 0 0 .none] 97, h260, .cells [] 21]⟩, [(0, 0), (1, 0), (2, 0), (3, 0), (4, 0), (5, 0), (6, 0), (7, 0), (8, 0), (9, 0), (10, 0), (65, 0), (67, 0), (63, 0)])]
theorem k167 : AllT (fstsF g167) := batch (fstsF g164 ++ (fstsF g165 ++ (fstsF g166 ++ ([])))) (AllF.append k164 (AllF.append k165 (AllF.append k166 (AllF.nil)))) g167 (by kernel_rfl)
set_option maxRecDepth 100000 in
def g168 : List (MemF × Bm) := [(⟨4, [.str s6, .nilslice, .int .i64 7], [], .ptr 0 0, [.cells [.nilslice, .int .i64 0, .slice 1 0 2 2 (.some 7), .int .i64 1, .nilslice, .ptr 2 0, .slice 3 0 0 0 .none, .int .u8 0, .int .u8 0, .int .u8 0, .int .i64 0, .int .u8 0, .int .u8 0, .int .u8 0, .int .u8 0, .int .u8 0, .int .u8 0, .int .u8 0, .int .u8 0, .int .i64 0, .int .u8 0, .int .u8 0, .int .u8 0, .int .u8 0, .int .u8 0, .int .u8 0, .int .u8 0, .int .u8 0, .bool false, .int .u8 0, .int .u8 0, .int .u16 0, .int .u16 0, .int .u16 0, .int .u16 0, .int .u16 0, .int .u16 0, .int .u8 1, .int .u8 1, .slice 4 0 1 1 .none, .int .i64 0, .int .u8 0, .int .u8 0, .bool false, .int .u8 0, .int .i64 0, .slice 5 0 5 5 (.some 4), .int .i64 1, .int .i64 0, .int .i64 0, .int .i64 0, .int .i64 0, .int .i64 0, .int .i64 0, .int .i64 0, .int .i64 0, .int .i64 0, .int .i64 0, .int .i64 0, .int .i64 0, .int .i64 0, .int .i64 0, .int .i64 0] 87, h254, h66, .cells [] 21, h255, h260, h252, h256, .cells [] 21, .cells [] 21, h243, h244, h246]⟩, [(104, 0), (100, 0), (105, 0), (106, 0), (109, 0), (110, 0), (87, 0), (95, 0), (108, 0), (111, 0), (73, 0), (74, 0), (76, 0)])]
theorem k168 : AllT (fstsF g168) := batch (fstsF g25 ++ (fstsF g151 ++ (fstsF g153 ++ (fstsF g154 ++ (fstsF g155 ++ (fstsF g156 ++ (fstsF g157 ++ (fstsF g158 ++ (fstsF g159 ++ (fstsF g160 ++ (fstsF g161 ++ (fstsF g162 ++ (fstsF g163 ++ (fstsF g167 ++ ([]))))))))))))))) (AllF.append k25 (AllF.append k151 (AllF.append k153 (AllF.append k154 (AllF.append k155 (AllF.append k156 (AllF.append k157 (AllF.append k158 (AllF.append k159 (AllF.append k160 (AllF.append k161 (AllF.append k162 (AllF.append k163 (AllF.append k167 (AllF.nil))))))))))))))) g168 (by kernel_rfl)
end
end Go.Proofs.YtnllfdcaloilnaaGreat.meanKnown
