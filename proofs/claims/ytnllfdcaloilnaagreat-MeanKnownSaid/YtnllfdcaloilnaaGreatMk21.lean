/- Calls over literal memory of ploverlaw17.MeanKnown, reckoned in the kernel: part 21. -/
import Derived.Test.YtnllfdcaloilnaaGreatRows
import Derived.WalkKit
import Derived.ProofKit
import Derived.OpenShut
import Derived.Below
import Derived.ChangeSame
import Derived.Laws.Externs
import Derived.Laws.LoneSync
import Derived.Test.YtnllfdcaloilnaaGreatMka
import Derived.Test.YtnllfdcaloilnaaGreatMk7
import Derived.Test.YtnllfdcaloilnaaGreatMk20
namespace Go.Proofs.YtnllfdcaloilnaaGreat.meanKnown
open Go.ChangeShapes Go.WideShapes Go.ChangeAt Go.RowKit
set_option linter.unusedVariables false

section
open Go.Ev
set_option linter.unusedSimpArgs false
set_option maxRecDepth 100000 in
def g84 : List (MemF × Bm) := [(⟨39, [.str s4], [], .tuple [.slice 0 0 18 18 (.some 5), .agg [.int .i64 0, .int .i64 0]], [h164]⟩, [(70, 0)])]
theorem k84 : AllT (fstsF g84) := batch (fstsF g83 ++ ([])) (AllF.append k83 (AllF.nil)) g84 (by kernel_rfl)
set_option maxRecDepth 100000 in
def g85 : List (MemF × Bm) := [(⟨147, [.ptr 0 0], [.cells [.slice 1 0 18 18 (.some 5), .int .i64 11, .int .i64 0, .int .i64 0, .int .i64 0] 167, h164], .agg [.int .i64 9, .int .i64 32, .int .i64 1, .str ⟨#[]⟩, .str ⟨#[]⟩, .str ⟨#[]⟩, .int .i64 0, .int .i64 0, .int .i64 1, .nilslice, .slice 2 0 1 1 (.some 12), .nilslice], [.cells [.slice 1 0 18 18 (.some 5), .int .i64 16, .int .i64 0, .int .i64 0, .int .i64 0] 167, h164, h165]⟩, [(0, 0), (1, 0), (7, 0)])]
theorem k85 : AllT (fstsF g85) := batch ([]) (AllF.nil) g85 (by kernel_rfl)
set_option maxRecDepth 100000 in
def g86 : List (MemF × Bm) := [(⟨72, [.ptr 0 0, .ptr 1 0], [.cells [.slice 2 0 18 18 (.some 5), .int .i64 6, .int .i64 0, .int .i64 0, .int .i64 0] 167, .cells [.nilslice, .nilslice, .slice 3 0 1 1 (.some 9)] 71, h164, .cells [.str ⟨#[]⟩, .int .i64 0, .int .i64 1, .int .i64 1, .int .i64 0, .int .i64 1, .nilslice, .int .i64 0, .nilslice] 120], .tuple [], [.cells [.slice 2 0 18 18 (.some 5), .int .i64 17, .int .i64 0, .int .i64 0, .int .i64 0] 167, .cells [.nilslice, .nilslice, .slice 4 0 2 2 (.some 9)] 71, h164, .gone, .cells [.str ⟨#[]⟩, .int .i64 0, .int .i64 1, .int .i64 1, .int .i64 0, .int .i64 1, .nilslice, .int .i64 0, .nilslice, .str ⟨#[109, 97, 105, 110]⟩, .int .i64 20, .int .i64 1, .int .i64 1, .int .i64 (-1), .int .i64 0, .nilslice, .int .i64 0, .slice 5 0 1 1 (.some 12)] 120, .cells [.int .i64 9, .int .i64 32, .int .i64 1, .str ⟨#[]⟩, .str ⟨#[]⟩, .str ⟨#[]⟩, .int .i64 0, .int .i64 0, .int .i64 1, .nilslice, .slice 6 0 1 1 (.some 12), .nilslice] 186, h165]⟩, [(0, 0), (1, 0), (2, 0), (3, 0), (9, 0), (7, 0), (5, 0)])]
theorem k86 : AllT (fstsF g86) := batch (fstsF g85 ++ ([])) (AllF.append k85 (AllF.nil)) g86 (by kernel_rfl)
set_option maxRecDepth 100000 in
def g87 : List (MemF × Bm) := [(⟨44, [.slice 0 0 1 1 (.some 12)], [h165], .int .i64 1, [h165]⟩, [(0, 0)])]
theorem k87 : AllT (fstsF g87) := batch (fstsF g25 ++ ([])) (AllF.append k25 (AllF.nil)) g87 (by kernel_rfl)
set_option maxRecDepth 100000 in
def g88 : List (MemF × Bm) := [(⟨45, [.agg [.nilslice, .nilslice, .slice 0 0 2 2 (.some 9)], .slice 1 0 1 1 (.some 12), .int .i64 1, .int .i64 2], [h166, h165, h167], .slice 3 0 1 1 (.some 11), [h166, h165, h167, .cells [.int .i64 7, .int .i64 1, .int .i64 (-1), .int .i64 (-1), .int .i64 0, .int .i64 0, .nilslice, .int .i64 0, .int .i64 0, .int .i64 2, .int .i64 (-1)] 100]⟩, [(0, 0), (1, 0), (2, 0), (6, 0)])]
theorem k88 : AllT (fstsF g88) := batch (fstsF g87 ++ ([])) (AllF.append k87 (AllF.nil)) g88 (by kernel_rfl)
set_option maxRecDepth 100000 in
def g89 : List (MemF × Bm) := [(⟨44, [.slice 0 0 1 1 (.some 12)], [h167, h165], .int .i64 3, [h167, h165]⟩, [(0, 0), (1, 0)])]
theorem k89 : AllT (fstsF g89) := batch (fstsF g25 ++ (fstsF g87 ++ ([]))) (AllF.append k25 (AllF.append k87 (AllF.nil))) g89 (by kernel_rfl)
set_option maxRecDepth 100000 in
def g90 : List (MemF × Bm) := [(⟨11, [.agg [.nilslice, .int .i64 0, .slice 0 0 2 2 (.some 7), .int .i64 1], .slice 1 0 1 1 .none], [h168, .cells [.int .i64 1, .int .i64 0, .int .u8 1] 25, h169, h170], .ptr 4 0, [h168, .cells [.int .i64 1, .int .i64 0, .int .u8 1] 25, h169, h170, .cells [.nilslice, .int .i64 0, .slice 0 0 2 2 (.some 7), .int .i64 1, .slice 5 0 1 1 (.some 3), .ptr 6 0, .slice 7 0 0 0 .none, .int .u8 0, .int .u8 0, .int .u8 0, .int .i64 0, .int .u8 0, .int .u8 0, .int .u8 0, .int .u8 0, .int .u8 0, .int .u8 0, .int .u8 0, .int .u8 0, .int .i64 0, .int .u8 0, .int .u8 0, .int .u8 0, .int .u8 0, .int .u8 0, .int .u8 0, .int .u8 0, .int .u8 0, .bool false, .int .u8 0, .int .u8 0, .int .u16 0, .int .u16 0, .int .u16 0, .int .u16 0, .int .u16 0, .int .u16 0, .int .u8 0, .int .u8 0, .slice 8 0 1 1 (.some 5), .int .i64 0, .int .u8 0, .int .u8 0, .bool false, .int .u8 0, .int .i64 0, .nilslice, .int .i64 1, .int .i64 0, .int .i64 0, .int .i64 0, .int .i64 0, .int .i64 0, .int .i64 0, .int .i64 0, .int .i64 0, .int .i64 0, .int .i64 0, .int .i64 0, .int .i64 0, .int .i64 0, .int .i64 0, .int .i64 0] 87, .cells [.int .i64 1, .int .i64 0, .int .u8 1] 25, .cells [.int .u8 0, .int .u8 0, .int .u8 0, .int .i64 0, .slice 9 0 1 1 (.some 3), .int .i64 0] 134, .cells [] 21, h171, .cells [.int .i64 1, .int .i64 0, .int .u8 1] 25, .cells [] 21]⟩, [(0, 0), (1, 0), (2, 0), (3, 0), (9, 0), (11, 0), (7, 0), (8, 0), (17, 0), (6, 0), (15, 0)])]
theorem k90 : AllT (fstsF g90) := batch ([]) (AllF.nil) g90 (by kernel_rfl)
set_option maxRecDepth 100000 in
def g91 : List (MemF × Bm) := [(⟨16, [.ptr 0 0], [h172, h173, .cells [.int .i64 1, .int .i64 0, .int .u8 1] 25, h174, .cells [] 21, h175, h169, h170, .cells [.int .i64 1, .int .i64 0, .int .u8 1] 25, .cells [] 21], .int .i64 0, [h172, h173, .cells [.int .i64 1, .int .i64 0, .int .u8 1] 25, h176, .cells [] 21, h175, h169, h170, .cells [.int .i64 1, .int .i64 0, .int .u8 1] 25, .cells [] 21]⟩, [(0, 0), (1, 0), (2, 0), (3, 0), (4, 0), (5, 0), (6, 0), (7, 0), (8, 0), (9, 0)])]
theorem k91 : AllT (fstsF g91) := batch ([]) (AllF.nil) g91 (by kernel_rfl)
set_option maxRecDepth 100000 in
def g92 : List (MemF × Bm) := [(⟨16, [.ptr 0 0], [h172, h173, .cells [.int .i64 1, .int .i64 0, .int .u8 1] 25, h176, .cells [] 21, h175, h169, h170, .cells [.int .i64 1, .int .i64 0, .int .u8 1] 25, .cells [] 21], .int .i64 0, [h172, h173, .cells [.int .i64 1, .int .i64 0, .int .u8 1] 25, h177, .cells [] 21, h175, h169, h170, .cells [.int .i64 1, .int .i64 0, .int .u8 1] 25, .cells [] 21]⟩, [(0, 0), (1, 0), (2, 0), (3, 0), (4, 0), (5, 0), (6, 0), (7, 0), (8, 0), (9, 0)])]
theorem k92 : AllT (fstsF g92) := batch ([]) (AllF.nil) g92 (by kernel_rfl)
set_option maxRecDepth 100000 in
def g93 : List (MemF × Bm) := [(⟨16, [.ptr 0 0], [h172, h173, .cells [.int .i64 1, .int .i64 0, .int .u8 1] 25, h177, .cells [] 21, h175, h169, h170, .cells [.int .i64 1, .int .i64 0, .int .u8 1] 25, .cells [] 21], .int .i64 0, [h172, h173, .cells [.int .i64 1, .int .i64 0, .int .u8 1] 25, h178, .cells [] 21, h175, h169, h170, .cells [.int .i64 1, .int .i64 0, .int .u8 1] 25, .cells [] 21]⟩, [(0, 0), (1, 0), (2, 0), (3, 0), (4, 0), (5, 0), (6, 0), (7, 0), (8, 0), (9, 0)])]
theorem k93 : AllT (fstsF g93) := batch ([]) (AllF.nil) g93 (by kernel_rfl)
set_option maxRecDepth 100000 in
def g94 : List (MemF × Bm) := [(⟨16, [.ptr 0 0], [h172, h173, .cells [.int .i64 1, .int .i64 0, .int .u8 1] 25, h178, .cells [] 21, h175, h169, h170, .cells [.int .i64 1, .int .i64 0, .int .u8 1] 25, .cells [] 21], .int .i64 0, [h172, h173, .cells [.int .i64 1, .int .i64 0, .int .u8 1] 25, h179, .cells [] 21, h175, h169, h170, .cells [.int .i64 1, .int .i64 0, .int .u8 1] 25, .cells [] 21]⟩, [(0, 0), (1, 0), (2, 0), (3, 0), (4, 0), (5, 0), (6, 0), (7, 0), (8, 0), (9, 0)])]
theorem k94 : AllT (fstsF g94) := batch ([]) (AllF.nil) g94 (by kernel_rfl)
set_option maxRecDepth 100000 in
def g95 : List (MemF × Bm) := [(⟨16, [.ptr 0 0], [h172, h173, .cells [.int .i64 1, .int .i64 0, .int .u8 1] 25, h179, .cells [] 21, h175, h169, h170, .cells [.int .i64 1, .int .i64 0, .int .u8 1] 25, .cells [] 21], .int .i64 0, [h172, h173, .cells [.int .i64 1, .int .i64 0, .int .u8 1] 25, h180, .cells [] 21, h175, h169, h170, .cells [.int .i64 1, .int .i64 0, .int .u8 1] 25, .cells [] 21]⟩, [(0, 0), (1, 0), (2, 0), (3, 0), (4, 0), (5, 0), (6, 0), (7, 0), (8, 0), (9, 0)])]
theorem k95 : AllT (fstsF g95) := batch ([]) (AllF.nil) g95 (by kernel_rfl)
set_option maxRecDepth 100000 in
def g96 : List (MemF × Bm) := [(⟨16, [.ptr 0 0], [h172, h173, .cells [.int .i64 1, .int .i64 0, .int .u8 1] 25, h180, .cells [] 21, h175, h169, h170, .cells [.int .i64 1, .int .i64 0, .int .u8 1] 25, .cells [] 21], .int .i64 0, [h172, h173, .cells [.int .i64 1, .int .i64 0, .int .u8 1] 25, h181, .cells [] 21, h175, h169, h170, .cells [.int .i64 1, .int .i64 0, .int .u8 1] 25, .cells [] 21]⟩, [(0, 0), (1, 0), (2, 0), (3, 0), (4, 0), (5, 0), (6, 0), (7, 0), (8, 0), (9, 0)])]
theorem k96 : AllT (fstsF g96) := batch ([]) (AllF.nil) g96 (by kernel_rfl)
set_option maxRecDepth 100000 in
def g97 : List (MemF × Bm) := [(⟨16, [.ptr 0 0], [h172, h173, .cells [.int .i64 1, .int .i64 0, .int .u8 1] 25, h181, .cells [] 21, h175, h169, h170, .cells [.int .i64 1, .int .i64 0, .int .u8 1] 25, .cells [] 21], .int .i64 0, [h172, h173, .cells [.int .i64 1, .int .i64 0, .int .u8 1] 25, h182, .cells [] 21, h175, h169, h170, .cells [.int .i64 1, .int .i64 0, .int .u8 1] 25, .cells [] 21]⟩, [(0, 0), (1, 0), (2, 0), (3, 0), (4, 0), (5, 0), (6, 0), (7, 0), (8, 0), (9, 0)])]
theorem k97 : AllT (fstsF g97) := batch ([]) (AllF.nil) g97 (by kernel_rfl)
set_option maxRecDepth 100000 in
def g98 : List (MemF × Bm) := [(⟨16, [.ptr 0 0], [h172, h173, .cells [.int .i64 1, .int .i64 0, .int .u8 1] 25, h182, .cells [] 21, h175, h169, h170, .cells [.int .i64 1, .int .i64 0, .int .u8 1] 25, .cells [] 21], .int .i64 0, [h172, h173, .cells [.int .i64 1, .int .i64 0, .int .u8 1] 25, h183, .cells [] 21, h175, h169, h170, .cells [.int .i64 1, .int .i64 0, .int .u8 1] 25, .cells [] 21]⟩, [(0, 0), (1, 0), (2, 0), (3, 0), (4, 0), (5, 0), (6, 0), (7, 0), (8, 0), (9, 0)])]
theorem k98 : AllT (fstsF g98) := batch ([]) (AllF.nil) g98 (by kernel_rfl)
end
end Go.Proofs.YtnllfdcaloilnaaGreat.meanKnown
