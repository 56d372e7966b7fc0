/- Calls over literal memory of ploverlaw17.MeanKnown, reckoned in the kernel: part 39. -/
import Derived.Test.YtnllfdcaloilnaaGreatRows
import Derived.WalkKit
import Derived.ProofKit
import Derived.OpenShut
import Derived.Below
import Derived.ChangeSame
import Derived.Laws.Externs
import Derived.Laws.LoneSync
import Derived.Test.YtnllfdcaloilnaaGreatMka
import Derived.Test.YtnllfdcaloilnaaGreatMk7
import Derived.Test.YtnllfdcaloilnaaGreatMk36
import Derived.Test.YtnllfdcaloilnaaGreatMk37
import Derived.Test.YtnllfdcaloilnaaGreatMk38
namespace Go.Proofs.YtnllfdcaloilnaaGreat.meanKnown
open Go.ChangeShapes Go.WideShapes Go.ChangeAt Go.RowKit
set_option linter.unusedVariables false

section
open Go.Ev
set_option linter.unusedSimpArgs false
set_option maxRecDepth 100000 in
def g200 : List (MemF × Bm) := [(⟨18, [.ptr 0 0, .int .i64 99], [h219, h311, .cells [.int .i64 4, .int .i64 0, .int .u8 1] 25, h220, .cells [] 21, h111, h82, h312, .cells [.int .i64 4, .int .i64 0, .int .u8 1] 25, .cells [] 21, h287, h288, h289], .int .i64 7, [.cells [.nilslice, .int .i64 0, .slice 1 0 2 2 (.some 7), .int .i64 1, .slice 2 0 1 1 (.some 3), .ptr 3 0, .slice 4 0 0 0 .none, .int .u8 7, .int .u8 1, .int .u8 1, .int .i64 0, .int .u8 0, .int .u8 0, .int .u8 0, .int .u8 0, .int .u8 0, .int .u8 0, .int .u8 0, .int .u8 0, .int .i64 0, .int .u8 0, .int .u8 0, .int .u8 0, .int .u8 0, .int .u8 0, .int .u8 0, .int .u8 0, .int .u8 0, .bool false, .int .u8 0, .int .u8 0, .int .u16 0, .int .u16 0, .int .u16 0, .int .u16 0, .int .u16 0, .int .u16 0, .int .u8 1, .int .u8 0, .nilslice, .int .i64 0, .int .u8 1, .int .u8 0, .bool false, .int .u8 0, .int .i64 1, .slice 13 0 5 5 (.some 4), .int .i64 1, .int .i64 0, .int .i64 0, .int .i64 0, .int .i64 0, .int .i64 0, .int .i64 0, .int .i64 0, .int .i64 0, .int .i64 0, .int .i64 0, .int .i64 0, .int .i64 0, .int .i64 0, .int .i64 0, .int .i64 0] 87, h311, .cells [.int .i64 4, .int .i64 0, .int .u8 1] 25, h174, .cells [] 21, .cells [.int .i64 1, .int .i64 2, .int .i64 (-1), .bool false, .slice 9 0 0 0 .none] 97, h82, h312, .cells [.int .i64 4, .int .i64 0, .int .u8 1] 25, .cells [] 21, h287, h288, h289, h309]⟩, [(0, 0), (1, 0), (2, 0), (3, 0), (4, 0), (5, 0), (6, 0), (7, 0), (8, 0), (9, 0), (10, 0), (11, 0), (12, 0), (53, 0)])]
theorem k200 : AllT (fstsF g200) := batch (fstsF g196 ++ (fstsF g197 ++ (fstsF g198 ++ (fstsF g199 ++ ([]))))) (AllF.append k196 (AllF.append k197 (AllF.append k198 (AllF.append k199 (AllF.nil))))) g200 (by kernel_rfl)
set_option maxRecDepth 100000 in
def g201 : List (MemF × Bm) := [(⟨4, [.str s8, .slice 0 0 1 1 .none, .int .i64 99], [.cells [.int .i64 4, .int .i64 0, .int .u8 1] 25], .ptr 1 0, [.cells [.int .i64 4, .int .i64 0, .int .u8 1] 25, .cells [.nilslice, .int .i64 0, .slice 2 0 2 2 (.some 7), .int .i64 1, .slice 3 0 1 1 (.some 3), .ptr 4 0, .slice 5 0 0 0 .none, .int .u8 7, .int .u8 1, .int .u8 1, .int .i64 0, .int .u8 0, .int .u8 0, .int .u8 0, .int .u8 0, .int .u8 0, .int .u8 0, .int .u8 0, .int .u8 0, .int .i64 0, .int .u8 0, .int .u8 0, .int .u8 0, .int .u8 0, .int .u8 0, .int .u8 0, .int .u8 0, .int .u8 0, .bool false, .int .u8 0, .int .u8 0, .int .u16 0, .int .u16 0, .int .u16 0, .int .u16 0, .int .u16 0, .int .u16 0, .int .u8 1, .int .u8 0, .nilslice, .int .i64 0, .int .u8 1, .int .u8 0, .bool false, .int .u8 0, .int .i64 1, .slice 6 0 5 5 (.some 4), .int .i64 1, .int .i64 0, .int .i64 0, .int .i64 0, .int .i64 0, .int .i64 0, .int .i64 0, .int .i64 0, .int .i64 0, .int .i64 0, .int .i64 0, .int .i64 0, .int .i64 0, .int .i64 0, .int .i64 0, .int .i64 0] 87, h297, .cells [.int .i64 4, .int .i64 0, .int .u8 1] 25, h310, .cells [] 21, h309, h82, h312, .cells [.int .i64 4, .int .i64 0, .int .u8 1] 25, h287, h288, h289]⟩, [(0, 0), (172, 0), (168, 0), (173, 0), (174, 0), (175, 0), (179, 0), (155, 0), (162, 0), (177, 0), (135, 0), (136, 0), (137, 0)])]
theorem k201 : AllT (fstsF g201) := batch (fstsF g25 ++ (fstsF g186 ++ (fstsF g187 ++ (fstsF g190 ++ (fstsF g191 ++ (fstsF g192 ++ (fstsF g193 ++ (fstsF g194 ++ (fstsF g195 ++ (fstsF g200 ++ ([]))))))))))) (AllF.append k25 (AllF.append k186 (AllF.append k187 (AllF.append k190 (AllF.append k191 (AllF.append k192 (AllF.append k193 (AllF.append k194 (AllF.append k195 (AllF.append k200 (AllF.nil))))))))))) g201 (by kernel_rfl)
set_option maxRecDepth 100000 in
def g202 : List (MemF × Bm) := [(⟨64, [.str s9, .int .i64 32], [], .tuple [.agg [.int .i64 3, .int .i64 32, .int .i64 1, .str ⟨#[125]⟩, .int .i64 0], .agg [.int .i64 0, .int .i64 0]], []⟩, [])]
theorem k202 : AllT (fstsF g202) := batch ([]) (AllF.nil) g202 (by kernel_rfl)
end
end Go.Proofs.YtnllfdcaloilnaaGreat.meanKnown
