/- Calls over literal memory of ploverlaw17.MeanKnown, reckoned in the kernel: part 34. -/
import Derived.Test.YtnllfdcaloilnaaGreatRows
import Derived.WalkKit
import Derived.ProofKit
import Derived.OpenShut
import Derived.Below
import Derived.ChangeSame
import Derived.Laws.Externs
import Derived.Laws.LoneSync
import Derived.Test.YtnllfdcaloilnaaGreatMka
import Derived.Test.YtnllfdcaloilnaaGreatMk7
import Derived.Test.YtnllfdcaloilnaaGreatMk33
namespace Go.Proofs.YtnllfdcaloilnaaGreat.meanKnown
open Go.ChangeShapes Go.WideShapes Go.ChangeAt Go.RowKit
set_option linter.unusedVariables false

section
open Go.Ev
set_option linter.unusedSimpArgs false
set_option maxRecDepth 100000 in
def g172 : List (MemF × Bm) := [(⟨72, [.ptr 0 0, .ptr 1 0], [.cells [.slice 2 0 14 14 (.some 5), .int .i64 0, .int .i64 0, .int .i64 0, .int .i64 0] 167, .cells [.nilslice, .nilslice, .nilslice] 71, h263], .tuple [], [.cells [.slice 2 0 14 14 (.some 5), .int .i64 13, .int .i64 0, .int .i64 0, .int .i64 0] 167, .cells [.nilslice, .nilslice, .slice 3 0 1 1 (.some 9)] 71, h263, h264, .cells [.int .i64 6, .int .i64 12, .int .i64 1, .str ⟨#[]⟩, .str ⟨#[]⟩, .str ⟨#[]⟩, .int .i64 0, .int .i64 0, .int .i64 0, .slice 5 0 1 1 .none, .nilslice, .nilslice] 186, h265]⟩, [(0, 0), (1, 0), (2, 0), (30, 0), (28, 0), (26, 0)])]
theorem k172 : AllT (fstsF g172) := batch ([]) (AllF.nil) g172 (by kernel_rfl)
set_option maxRecDepth 100000 in
def g173 : List (MemF × Bm) := [(⟨40, [.str s7], [], .tuple [.agg [.nilslice, .nilslice, .slice 0 0 1 1 (.some 9)], .agg [.int .i64 0, .int .i64 0]], [h266, h267, h265]⟩, [(60, 0), (61, 0), (62, 0)])]
theorem k173 : AllT (fstsF g173) := batch (fstsF g171 ++ (fstsF g172 ++ ([]))) (AllF.append k171 (AllF.append k172 (AllF.nil))) g173 (by kernel_rfl)
set_option maxRecDepth 100000 in
def g174 : List (MemF × Bm) := [(⟨41, [.agg [.nilslice, .nilslice, .slice 0 0 1 1 (.some 9)]], [h266, h267, h265], .tuple [.agg [.nilslice, .nilslice, .slice 3 0 1 1 (.some 9), .nilslice, .int .i64 0, .slice 4 0 1 1 (.some 1)], .agg [.int .i64 0, .int .i64 0]], [h266, h267, h265, h268, .cells [.nilslice] 91, h269, h265]⟩, [(0, 0), (1, 0), (2, 0), (27, 0), (29, 0), (25, 0), (21, 0)])]
theorem k174 : AllT (fstsF g174) := batch ([]) (AllF.nil) g174 (by kernel_rfl)
set_option maxRecDepth 100000 in
def g175 : List (MemF × Bm) := [(⟨42, [.agg [.nilslice, .nilslice, .slice 0 0 1 1 (.some 9), .nilslice, .int .i64 0, .slice 1 0 1 1 (.some 1)]], [h270, .cells [.nilslice] 91, h271, h265], .tuple [.agg [.nilslice, .nilslice, .slice 4 0 1 1 (.some 9), .nilslice, .int .i64 0, .slice 1 0 1 1 (.some 1)], .agg [.int .i64 0, .int .i64 0]], [h270, .cells [.nilslice] 91, h271, h265, h268, h269, h272]⟩, [(0, 0), (1, 0), (2, 0), (3, 0), (18, 0), (16, 0), (15, 0)])]
theorem k175 : AllT (fstsF g175) := batch ([]) (AllF.nil) g175 (by kernel_rfl)
set_option maxRecDepth 100000 in
def g176 : List (MemF × Bm) := [(⟨43, [.agg [.nilslice, .nilslice, .slice 0 0 1 1 (.some 9)]], [h266, h273, h272], .agg [.nilslice, .nilslice, .slice 3 0 1 1 (.some 9)], [h266, h273, h272, h264, .cells [.int .i64 6, .int .i64 12, .int .i64 1, .str ⟨#[]⟩, .str ⟨#[]⟩, .str ⟨#[]⟩, .int .i64 0, .int .i64 0, .int .i64 0, .slice 5 0 1 1 (.some 8), .nilslice, .nilslice] 186, h272]⟩, [(0, 0), (1, 0), (2, 0), (12, 0), (10, 0), (8, 0)])]
theorem k176 : AllT (fstsF g176) := batch ([]) (AllF.nil) g176 (by kernel_rfl)
set_option maxRecDepth 100000 in
def g177 : List (MemF × Bm) := [(⟨44, [.slice 0 0 1 1 (.some 12)], [h274, h272], .int .i64 1, [h274, h272]⟩, [(0, 0), (1, 0)])]
theorem k177 : AllT (fstsF g177) := batch (fstsF g25 ++ ([])) (AllF.append k25 (AllF.nil)) g177 (by kernel_rfl)
set_option maxRecDepth 100000 in
def g178 : List (MemF × Bm) := [(⟨45, [.agg [.nilslice, .nilslice, .slice 0 0 1 1 (.some 9)], .slice 1 0 1 1 (.some 12), .int .i64 0, .int .i64 1], [h266, h273, h272], .slice 3 0 1 1 (.some 11), [h266, h273, h272, .cells [.int .i64 3, .int .i64 1, .int .i64 (-1), .int .i64 (-1), .int .i64 0, .int .i64 0, .slice 2 0 1 1 (.some 8), .int .i64 0, .int .i64 0, .int .i64 1, .int .i64 (-1)] 100]⟩, [(0, 0), (1, 0), (2, 0), (10, 0)])]
theorem k178 : AllT (fstsF g178) := batch (fstsF g177 ++ ([])) (AllF.append k177 (AllF.nil)) g178 (by kernel_rfl)
set_option maxRecDepth 100000 in
def g179 : List (MemF × Bm) := [(⟨11, [.agg [.nilslice, .int .i64 0, .slice 0 0 1 1 (.some 7), .int .i64 0], .nilslice], [h275, h276, h272], .ptr 3 0, [h275, h276, h272, .cells [.nilslice, .int .i64 0, .slice 0 0 1 1 (.some 7), .int .i64 0, .nilslice, .ptr 4 0, .slice 5 0 0 0 .none, .int .u8 0, .int .u8 0, .int .u8 0, .int .i64 0, .int .u8 0, .int .u8 0, .int .u8 0, .int .u8 0, .int .u8 0, .int .u8 0, .int .u8 0, .int .u8 0, .int .i64 0, .int .u8 0, .int .u8 0, .int .u8 0, .int .u8 0, .int .u8 0, .int .u8 0, .int .u8 0, .int .u8 0, .bool false, .int .u8 0, .int .u8 0, .int .u16 0, .int .u16 0, .int .u16 0, .int .u16 0, .int .u16 0, .int .u16 0, .int .u8 0, .int .u8 0, .slice 6 0 1 1 (.some 5), .int .i64 0, .int .u8 0, .int .u8 0, .bool false, .int .u8 0, .int .i64 0, .nilslice, .int .i64 0, .int .i64 0, .int .i64 0, .int .i64 0, .int .i64 0, .int .i64 0, .int .i64 0, .int .i64 0, .int .i64 0, .int .i64 0, .int .i64 0, .int .i64 0, .int .i64 0, .int .i64 0, .int .i64 0, .int .i64 0] 87, h56, .cells [] 21, h139, .cells [] 21]⟩, [(0, 0), (1, 0), (2, 0), (6, 0), (4, 0), (5, 0), (11, 0), (9, 0)])]
theorem k179 : AllT (fstsF g179) := batch ([]) (AllF.nil) g179 (by kernel_rfl)
set_option maxRecDepth 100000 in
def g180 : List (MemF × Bm) := [(⟨18, [.ptr 0 0, .int .i64 9], [h277, h278, h56, .cells [] 21, .cells [.int .i64 0, .int .i64 0, .int .i64 (-1), .bool false, .slice 6 0 0 0 .none] 97, h279, .cells [] 21, h272], .int .i64 2, [.cells [.nilslice, .int .i64 0, .slice 1 0 1 1 (.some 7), .int .i64 0, .nilslice, .ptr 2 0, .slice 3 0 0 0 .none, .int .u8 3, .int .u8 0, .int .u8 0, .int .i64 0, .int .u8 0, .int .u8 0, .int .u8 0, .int .u8 0, .int .u8 0, .int .u8 0, .int .u8 0, .int .u8 0, .int .i64 0, .int .u8 0, .int .u8 0, .int .u8 0, .int .u8 0, .int .u8 0, .int .u8 0, .int .u8 0, .int .u8 0, .bool false, .int .u8 0, .int .u8 0, .int .u16 0, .int .u16 0, .int .u16 0, .int .u16 0, .int .u16 0, .int .u16 0, .int .u8 0, .int .u8 0, .slice 4 0 0 0 .none, .int .i64 0, .int .u8 0, .int .u8 0, .bool false, .int .u8 0, .int .i64 1, .slice 8 0 1 1 (.some 4), .int .i64 0, .int .i64 0, .int .i64 0, .int .i64 0, .int .i64 0, .int .i64 0, .int .i64 0, .int .i64 0, .int .i64 0, .int .i64 0, .int .i64 0, .int .i64 0, .int .i64 0, .int .i64 0, .int .i64 0, .int .i64 0] 87, h278, .cells [.int .u8 0, .int .u8 0, .int .u8 0, .int .i64 0, .nilslice, .int .i64 2] 134, .cells [] 21, .cells [.int .i64 0, .int .i64 1, .int .i64 (-1), .bool false, .slice 6 0 0 0 .none] 97, h279, .cells [] 21, h272, .cells [.int .i64 1, .int .i64 0, .int .i64 0, .int .i32 3] 37]⟩, [(0, 0), (1, 0), (2, 0), (3, 0), (4, 0), (5, 0), (6, 0), (7, 0), (22, 0)])]
theorem k180 : AllT (fstsF g180) := batch ([]) (AllF.nil) g180 (by kernel_rfl)
end
end Go.Proofs.YtnllfdcaloilnaaGreat.meanKnown
