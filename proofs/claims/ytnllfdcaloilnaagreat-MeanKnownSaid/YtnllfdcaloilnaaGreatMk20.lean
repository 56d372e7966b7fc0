/- Calls over literal memory of ploverlaw17.MeanKnown, reckoned in the kernel: part 20. -/
import Derived.Test.YtnllfdcaloilnaaGreatRows
import Derived.WalkKit
import Derived.ProofKit
import Derived.OpenShut
import Derived.Below
import Derived.ChangeSame
import Derived.Laws.Externs
import Derived.Laws.LoneSync
import Derived.Test.YtnllfdcaloilnaaGreatMka
import Derived.Test.YtnllfdcaloilnaaGreatMk7
import Derived.Test.YtnllfdcaloilnaaGreatMk18
import Derived.Test.YtnllfdcaloilnaaGreatMk19
namespace Go.Proofs.YtnllfdcaloilnaaGreat.meanKnown
open Go.ChangeShapes Go.WideShapes Go.ChangeAt Go.RowKit
set_option linter.unusedVariables false

section
open Go.Ev
set_option linter.unusedSimpArgs false
set_option maxRecDepth 100000 in
def g75 : List (MemF × Bm) := [(⟨70, [.ptr 0 0, .ptr 1 0], [.cells [.slice 2 0 29 29 (.some 5), .int .i64 0, .int .i64 0, .int .i64 0, .int .i64 0] 167, .cells [.nilslice, .nilslice, .nilslice] 71, h143], .tuple [], [h146, .cells [.nilslice, .slice 3 0 1 1 (.some 5), .nilslice] 71, h143, h123]⟩, [(0, 0), (1, 0), (2, 0), (6, 0)])]
theorem k75 : AllT (fstsF g75) := batch ([]) (AllF.nil) g75 (by kernel_rfl)
set_option maxRecDepth 100000 in
def g76 : List (MemF × Bm) := [(⟨72, [.ptr 0 0, .ptr 1 0], [h146, .cells [.nilslice, .slice 3 0 1 1 (.some 5), .nilslice] 71, h143, h123], .tuple [], [.cells [.slice 2 0 29 29 (.some 5), .int .i64 28, .int .i64 0, .int .i64 0, .int .i64 0] 167, h4, h143, h123, h124, h125, .cells [.int .i64 13, .int .i64 34, .str ⟨#[]⟩, .str ⟨#[]⟩, .int .i64 0, .int .i64 0, .int .i64 0, .slice 7 0 2 2 .none, .int .i64 10, .int .i64 43, .str ⟨#[]⟩, .str ⟨#[]⟩, .int .i64 0, .int .i64 0, .int .i64 0, .slice 8 0 2 2 .none] 150, .cells [.int .i64 2, .int .i64 29, .str ⟨#[104]⟩, .str ⟨#[]⟩, .int .i64 0, .int .i64 0, .int .i64 0, .slice 9 0 1 1 .none, .int .i64 0, .int .i64 36, .str ⟨#[]⟩, .str ⟨#[]⟩, .int .i64 1, .int .i64 0, .int .i64 0, .nilslice] 150, h144, h145]⟩, [(0, 0), (1, 0), (2, 0), (3, 0), (12, 0), (10, 0), (5, 0), (6, 0), (7, 0), (8, 0)])]
theorem k76 : AllT (fstsF g76) := batch (fstsF g74 ++ ([])) (AllF.append k74 (AllF.nil)) g76 (by kernel_rfl)
set_option maxRecDepth 100000 in
def g77 : List (MemF × Bm) := [(⟨41, [.agg [.nilslice, .slice 0 0 1 1 (.some 5), .slice 1 0 1 1 (.some 9)]], [h123, h126, h127, h147, h148, h144, h145], .tuple [.agg [.nilslice, .slice 0 0 1 1 (.some 5), .slice 7 0 1 1 (.some 9), .slice 8 0 1 1 (.some 4), .int .i64 2, .slice 9 0 1 1 (.some 1)], .agg [.int .i64 0, .int .i64 0]], [h123, h126, h127, h147, h148, h144, h145, .cells [.str ⟨#[109, 97, 105, 110]⟩, .int .i64 15, .int .i64 1, .int .i64 1, .int .i64 (-1), .int .i64 0, .nilslice, .int .i64 0, .slice 10 0 1 1 (.some 12)] 120, h133, .cells [.nilslice] 91, .cells [.int .i64 2, .int .i64 27, .int .i64 1, .str ⟨#[104]⟩, .str ⟨#[]⟩, .str ⟨#[]⟩, .int .i64 0, .int .i64 0, .int .i64 0, .slice 11 0 2 2 (.some 8), .nilslice, .nilslice] 186, .cells [.int .i64 28, .int .i64 27, .str ⟨#[104]⟩, .str ⟨#[]⟩, .int .i64 2, .int .i64 1, .int .i64 0, .slice 12 0 1 1 (.some 8), .int .i64 10, .int .i64 43, .str ⟨#[]⟩, .str ⟨#[]⟩, .int .i64 0, .int .i64 0, .int .i64 0, .slice 13 0 2 2 (.some 8)] 150, .cells [.int .i64 13, .int .i64 34, .str ⟨#[]⟩, .str ⟨#[]⟩, .int .i64 0, .int .i64 0, .int .i64 0, .slice 14 0 2 2 (.some 8)] 150, h144, .cells [.int .i64 28, .int .i64 29, .str ⟨#[104]⟩, .str ⟨#[]⟩, .int .i64 2, .int .i64 1, .int .i64 0, .slice 15 0 1 1 (.some 8), .int .i64 0, .int .i64 36, .str ⟨#[]⟩, .str ⟨#[]⟩, .int .i64 1, .int .i64 0, .int .i64 0, .nilslice] 150, h145]⟩, [(0, 0), (1, 0), (2, 0), (3, 0), (4, 0), (5, 0), (6, 0), (61, 0), (17, 0), (63, 0), (59, 0), (55, 0), (44, 0), (52, 0), (42, 0), (38, 0)])]
theorem k77 : AllT (fstsF g77) := batch ([]) (AllF.nil) g77 (by kernel_rfl)
set_option maxRecDepth 100000 in
def g78 : List (MemF × Bm) := [(⟨42, [.agg [.nilslice, .slice 0 0 1 1 (.some 5), .slice 1 0 1 1 (.some 9), .slice 2 0 1 1 (.some 4), .int .i64 2, .slice 3 0 1 1 (.some 1)]], [h123, h149, h133, .cells [.nilslice] 91, h150, h151, h152, h144, h153, h145], .tuple [.agg [.nilslice, .slice 0 0 1 1 (.some 5), .slice 10 0 1 1 (.some 9), .slice 2 0 1 1 (.some 4), .int .i64 2, .slice 3 0 1 1 (.some 1)], .agg [.int .i64 0, .int .i64 0]], [h123, h149, h133, .cells [.nilslice] 91, h150, h151, h152, h144, h153, h145, .cells [.str ⟨#[109, 97, 105, 110]⟩, .int .i64 15, .int .i64 1, .int .i64 1, .int .i64 (-1), .int .i64 0, .nilslice, .int .i64 0, .slice 11 0 1 1 (.some 12)] 120, .cells [.int .i64 2, .int .i64 27, .int .i64 1, .str ⟨#[104]⟩, .str ⟨#[]⟩, .str ⟨#[]⟩, .int .i64 0, .int .i64 0, .int .i64 0, .slice 12 0 2 2 (.some 8), .nilslice, .nilslice] 186, .cells [.int .i64 28, .int .i64 27, .str ⟨#[104]⟩, .str ⟨#[]⟩, .int .i64 2, .int .i64 1, .int .i64 0, .slice 13 0 1 1 (.some 8), .int .i64 10, .int .i64 43, .str ⟨#[]⟩, .str ⟨#[]⟩, .int .i64 0, .int .i64 1, .int .i64 0, .slice 14 0 2 2 (.some 8)] 150, .cells [.int .i64 13, .int .i64 34, .str ⟨#[]⟩, .str ⟨#[]⟩, .int .i64 0, .int .i64 1, .int .i64 0, .slice 15 0 2 2 (.some 8)] 150, h154, .cells [.int .i64 28, .int .i64 29, .str ⟨#[104]⟩, .str ⟨#[]⟩, .int .i64 2, .int .i64 1, .int .i64 0, .slice 16 0 1 1 (.some 8), .int .i64 0, .int .i64 36, .str ⟨#[]⟩, .str ⟨#[]⟩, .int .i64 1, .int .i64 1, .int .i64 0, .nilslice] 150, h155]⟩, [(0, 0), (1, 0), (2, 0), (3, 0), (4, 0), (5, 0), (6, 0), (7, 0), (8, 0), (9, 0), (47, 0), (45, 0), (44, 0), (33, 0), (43, 0), (31, 0), (27, 0)])]
theorem k78 : AllT (fstsF g78) := batch ([]) (AllF.nil) g78 (by kernel_rfl)
set_option maxRecDepth 100000 in
def g79 : List (MemF × Bm) := [(⟨44, [.slice 0 0 1 1 (.some 12)], [h130, h156, h157, h154, h158, h155], .int .i64 1, [h130, h156, h157, h154, h158, h155]⟩, [(0, 0), (1, 0), (2, 0), (3, 0), (4, 0), (5, 0)])]
theorem k79 : AllT (fstsF g79) := batch (fstsF g25 ++ ([])) (AllF.append k25 (AllF.nil)) g79 (by kernel_rfl)
set_option maxRecDepth 100000 in
def g80 : List (MemF × Bm) := [(⟨11, [.agg [.slice 0 0 1 1 (.some 4), .int .i64 2, .slice 1 0 1 1 (.some 7), .int .i64 0], .nilslice], [h133, h134, h135, h159, h160, h154, h155], .ptr 7 0, [h133, h134, h135, h159, h160, h154, h155, .cells [.slice 0 0 1 1 (.some 4), .int .i64 2, .slice 1 0 1 1 (.some 7), .int .i64 0, .nilslice, .ptr 8 0, .slice 9 0 2 2 .none, .int .u8 0, .int .u8 0, .int .u8 0, .int .i64 0, .int .u8 0, .int .u8 0, .int .u8 0, .int .u8 0, .int .u8 0, .int .u8 0, .int .u8 0, .int .u8 0, .int .i64 0, .int .u8 0, .int .u8 0, .int .u8 0, .int .u8 0, .int .u8 0, .int .u8 0, .int .u8 0, .int .u8 0, .bool false, .int .u8 0, .int .u8 0, .int .u16 0, .int .u16 0, .int .u16 0, .int .u16 0, .int .u16 0, .int .u16 0, .int .u8 0, .int .u8 0, .slice 10 0 1 1 (.some 5), .int .i64 0, .int .u8 0, .int .u8 0, .bool false, .int .u8 0, .int .i64 0, .nilslice, .int .i64 0, .int .i64 0, .int .i64 0, .int .i64 0, .int .i64 0, .int .i64 0, .int .i64 0, .int .i64 0, .int .i64 0, .int .i64 0, .int .i64 0, .int .i64 0, .int .i64 0, .int .i64 0, .int .i64 0, .int .i64 0] 87, h56, .cells [.int .i32 0, .int .i32 0] 21, .cells [.int .i64 0, .int .i64 0, .int .i64 (-1), .bool false, .slice 11 0 0 0 .none] 97, .cells [] 21]⟩, [(0, 0), (1, 0), (2, 0), (3, 0), (4, 0), (5, 0), (6, 0), (10, 0), (8, 0), (9, 0), (15, 0), (13, 0)])]
theorem k80 : AllT (fstsF g80) := batch ([]) (AllF.nil) g80 (by kernel_rfl)
set_option maxRecDepth 100000 in
def g81 : List (MemF × Bm) := [(⟨18, [.ptr 0 0, .int .i64 5], [h137, h133, h138, h56, .cells [.int .i32 0, .int .i32 0] 21, h139, h140, .cells [] 21, h161, h162, h154, h155], .int .i64 1, [h163, h133, h138, h142, .cells [.int .i32 0, .int .i32 0] 21, h139, h140, .cells [] 21, h161, h162, h154, h155]⟩, [(0, 0), (1, 0), (2, 0), (3, 0), (4, 0), (5, 0), (6, 0), (7, 0), (8, 0), (9, 0), (10, 0), (11, 0)])]
theorem k81 : AllT (fstsF g81) := batch ([]) (AllF.nil) g81 (by kernel_rfl)
set_option maxRecDepth 100000 in
def g82 : List (MemF × Bm) := [(⟨4, [.str s3, .nilslice, .int .i64 5], [], .ptr 0 0, [h163, h133, h138, h142, .cells [.int .i32 0, .int .i32 0] 21, h139, h140, .cells [] 21, h161, h162, h154, h155]⟩, [(99, 0), (20, 0), (95, 0), (100, 0), (101, 0), (102, 0), (92, 0), (103, 0), (89, 0), (52, 0), (64, 0), (47, 0)])]
theorem k82 : AllT (fstsF g82) := batch (fstsF g25 ++ (fstsF g73 ++ (fstsF g75 ++ (fstsF g76 ++ (fstsF g77 ++ (fstsF g78 ++ (fstsF g79 ++ (fstsF g80 ++ (fstsF g81 ++ ([])))))))))) (AllF.append k25 (AllF.append k73 (AllF.append k75 (AllF.append k76 (AllF.append k77 (AllF.append k78 (AllF.append k79 (AllF.append k80 (AllF.append k81 (AllF.nil)))))))))) g82 (by kernel_rfl)
set_option maxRecDepth 100000 in
def g83 : List (MemF × Bm) := [(⟨64, [.str s4, .int .i64 48], [], .tuple [.agg [.int .i64 3, .int .i64 48, .int .i64 1, .str ⟨#[59]⟩, .int .i64 0], .agg [.int .i64 0, .int .i64 0]], []⟩, []),
  (⟨64, [.str s4, .int .i64 50], [], .tuple [.agg [.int .i64 3, .int .i64 50, .int .i64 1, .str ⟨#[125]⟩, .int .i64 0], .agg [.int .i64 0, .int .i64 0]], []⟩, []),
  (⟨64, [.str s4, .int .i64 52], [], .tuple [.agg [.int .i64 3, .int .i64 52, .int .i64 1, .str ⟨#[125]⟩, .int .i64 0], .agg [.int .i64 0, .int .i64 0]], []⟩, [])]
theorem k83 : AllT (fstsF g83) := batch ([]) (AllF.nil) g83 (by kernel_rfl)
end
end Go.Proofs.YtnllfdcaloilnaaGreat.meanKnown
