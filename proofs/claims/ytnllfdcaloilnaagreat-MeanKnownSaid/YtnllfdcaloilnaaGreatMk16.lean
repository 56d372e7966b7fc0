/- Calls over literal memory of ploverlaw17.MeanKnown, reckoned in the kernel: part 16. -/
import Derived.Test.YtnllfdcaloilnaaGreatRows
import Derived.WalkKit
import Derived.ProofKit
import Derived.OpenShut
import Derived.Below
import Derived.ChangeSame
import Derived.Laws.Externs
import Derived.Laws.LoneSync
import Derived.Test.YtnllfdcaloilnaaGreatMka
import Derived.Test.YtnllfdcaloilnaaGreatMk7
namespace Go.Proofs.YtnllfdcaloilnaaGreat.meanKnown
open Go.ChangeShapes Go.WideShapes Go.ChangeAt Go.RowKit
set_option linter.unusedVariables false

section
open Go.Ev
set_option linter.unusedSimpArgs false
set_option maxRecDepth 100000 in
def g62 : List (MemF × Bm) := [(⟨147, [.ptr 0 0], [.cells [.slice 1 0 22 22 (.some 5), .int .i64 13, .int .i64 0, .int .i64 0, .int .i64 0] 167, h120], .agg [.int .i64 2, .int .i64 27, .int .i64 1, .str ⟨#[104]⟩, .str ⟨#[]⟩, .str ⟨#[]⟩, .int .i64 0, .int .i64 0, .int .i64 0, .slice 2 0 2 2 (.some 8), .nilslice, .nilslice], [.cells [.slice 1 0 22 22 (.some 5), .int .i64 20, .int .i64 0, .int .i64 0, .int .i64 0] 167, h120, h121]⟩, [(0, 0), (1, 0), (44, 0)])]
theorem k62 : AllT (fstsF g62) := batch ([]) (AllF.nil) g62 (by kernel_rfl)
set_option maxRecDepth 100000 in
def g63 : List (MemF × Bm) := [(⟨70, [.ptr 0 0, .ptr 1 0], [.cells [.slice 2 0 22 22 (.some 5), .int .i64 0, .int .i64 0, .int .i64 0, .int .i64 0] 167, .cells [.nilslice, .nilslice, .nilslice] 71, h120], .tuple [], [h122, .cells [.nilslice, .slice 3 0 1 1 (.some 5), .nilslice] 71, h120, h123]⟩, [(0, 0), (1, 0), (2, 0), (6, 0)])]
theorem k63 : AllT (fstsF g63) := batch ([]) (AllF.nil) g63 (by kernel_rfl)
set_option maxRecDepth 100000 in
def g64 : List (MemF × Bm) := [(⟨72, [.ptr 0 0, .ptr 1 0], [h122, .cells [.nilslice, .slice 3 0 1 1 (.some 5), .nilslice] 71, h120, h123], .tuple [], [.cells [.slice 2 0 22 22 (.some 5), .int .i64 21, .int .i64 0, .int .i64 0, .int .i64 0] 167, h4, h120, h123, h124, h125, h121]⟩, [(0, 0), (1, 0), (2, 0), (3, 0), (9, 0), (7, 0), (5, 0)])]
theorem k64 : AllT (fstsF g64) := batch (fstsF g62 ++ ([])) (AllF.append k62 (AllF.nil)) g64 (by kernel_rfl)
set_option maxRecDepth 100000 in
def g65 : List (MemF × Bm) := [(⟨43, [.agg [.nilslice, .slice 0 0 1 1 (.some 5), .slice 1 0 1 1 (.some 9)]], [h123, h126, h127, h128, h129], .agg [.nilslice, .slice 0 0 1 1 (.some 5), .slice 5 0 1 1 (.some 9)], [h123, h126, h127, h128, h129, .cells [.str ⟨#[109, 97, 105, 110]⟩, .int .i64 15, .int .i64 1, .int .i64 1, .int .i64 (-1), .int .i64 0, .nilslice, .int .i64 0, .slice 6 0 1 1 (.some 12)] 120, .cells [.int .i64 2, .int .i64 27, .int .i64 1, .str ⟨#[104]⟩, .str ⟨#[]⟩, .str ⟨#[]⟩, .int .i64 0, .int .i64 0, .int .i64 0, .slice 7 0 2 2 (.some 8), .nilslice, .nilslice] 186, .cells [.int .i64 28, .int .i64 27, .str ⟨#[104]⟩, .str ⟨#[]⟩, .int .i64 2, .int .i64 1, .int .i64 0, .slice 8 0 1 1 (.some 8), .int .i64 0, .int .i64 34, .str ⟨#[]⟩, .str ⟨#[]⟩, .int .i64 1, .int .i64 1, .int .i64 0, .nilslice] 150, h129]⟩, [(0, 0), (1, 0), (2, 0), (3, 0), (4, 0), (21, 0), (19, 0), (17, 0), (12, 0)])]
theorem k65 : AllT (fstsF g65) := batch ([]) (AllF.nil) g65 (by kernel_rfl)
set_option maxRecDepth 100000 in
def g66 : List (MemF × Bm) := [(⟨44, [.slice 0 0 1 1 (.some 12)], [h130, h131, h129], .int .i64 1, [h130, h131, h129]⟩, [(0, 0), (1, 0), (2, 0)])]
theorem k66 : AllT (fstsF g66) := batch (fstsF g25 ++ ([])) (AllF.append k25 (AllF.nil)) g66 (by kernel_rfl)
set_option maxRecDepth 100000 in
def g67 : List (MemF × Bm) := [(⟨45, [.agg [.nilslice, .slice 0 0 1 1 (.some 5), .slice 1 0 1 1 (.some 9)], .slice 2 0 1 1 (.some 12), .int .i64 0, .int .i64 1], [h123, h126, h127, h128, h129], .slice 5 0 1 1 (.some 11), [h123, h126, h127, h128, h129, .cells [.int .i64 0, .int .i64 1, .int .i64 (-1), .int .i64 0, .int .i64 2, .int .i64 1, .slice 6 0 2 2 (.some 8), .int .i64 0, .int .i64 0, .int .i64 1, .int .i64 (-1)] 100, h132]⟩, [(0, 0), (1, 0), (2, 0), (3, 0), (4, 0), (16, 0), (14, 0)])]
theorem k67 : AllT (fstsF g67) := batch (fstsF g66 ++ ([])) (AllF.append k66 (AllF.nil)) g67 (by kernel_rfl)
set_option maxRecDepth 100000 in
def g68 : List (MemF × Bm) := [(⟨11, [.agg [.slice 0 0 1 1 (.some 4), .int .i64 2, .slice 1 0 1 1 (.some 7), .int .i64 0], .nilslice], [h133, h134, h135, h132], .ptr 4 0, [h133, h134, h135, h132, .cells [.slice 0 0 1 1 (.some 4), .int .i64 2, .slice 1 0 1 1 (.some 7), .int .i64 0, .nilslice, .ptr 5 0, .slice 6 0 2 2 .none, .int .u8 0, .int .u8 0, .int .u8 0, .int .i64 0, .int .u8 0, .int .u8 0, .int .u8 0, .int .u8 0, .int .u8 0, .int .u8 0, .int .u8 0, .int .u8 0, .int .i64 0, .int .u8 0, .int .u8 0, .int .u8 0, .int .u8 0, .int .u8 0, .int .u8 0, .int .u8 0, .int .u8 0, .bool false, .int .u8 0, .int .u8 0, .int .u16 0, .int .u16 0, .int .u16 0, .int .u16 0, .int .u16 0, .int .u16 0, .int .u8 0, .int .u8 0, .slice 7 0 1 1 (.some 5), .int .i64 0, .int .u8 0, .int .u8 0, .bool false, .int .u8 0, .int .i64 0, .nilslice, .int .i64 0, .int .i64 0, .int .i64 0, .int .i64 0, .int .i64 0, .int .i64 0, .int .i64 0, .int .i64 0, .int .i64 0, .int .i64 0, .int .i64 0, .int .i64 0, .int .i64 0, .int .i64 0, .int .i64 0, .int .i64 0] 87, h56, .cells [.int .i32 0, .int .i32 0] 21, h136, .cells [] 21]⟩, [(0, 0), (1, 0), (2, 0), (3, 0), (7, 0), (5, 0), (6, 0), (12, 0), (10, 0)])]
theorem k68 : AllT (fstsF g68) := batch ([]) (AllF.nil) g68 (by kernel_rfl)
end
end Go.Proofs.YtnllfdcaloilnaaGreat.meanKnown
