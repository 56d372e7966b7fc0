/- Calls over literal memory of ploverlaw24.VmKnown, reckoned in the kernel: part 3. -/
import Derived.Test.YtipejmklkmccnaaGreatRows
import Derived.WalkKit
import Derived.ProofKit
import Derived.OpenShut
import Derived.Below
import Derived.ChangeSame
import Derived.Laws.Externs
import Derived.Laws.LoneSync
import Derived.Test.YtipejmklkmccnaaGreatVka
import Derived.Test.YtipejmklkmccnaaGreatVk1
namespace Go.Proofs.YtipejmklkmccnaaGreat.vmKnown
open Go.ChangeShapes Go.WideShapes Go.ChangeAt Go.RowKit
set_option linter.unusedVariables false

section
open Go.Ev
set_option linter.unusedSimpArgs false
set_option maxRecDepth 100000 in
def g24 : List (MemF × Bm) := [(⟨19, [.agg [.slice 0 0 2 2 .none, .nilslice, .slice 1 0 1 1 .none, .nilslice, .int .i64 0, .int .i64 4, .int .i64 0], .int .i64 3, .int .i64 1], [h24, h1], .bool true, [h24, h1]⟩, [(0, 0), (1, 0)])]
theorem k24 : AllT (fstsF g24) := batch ([]) (AllF.nil) g24 (by kernel_rfl)
set_option maxRecDepth 100000 in
def g25 : List (MemF × Bm) := [(⟨28, [.ptr 0 0, .agg [.int .u8 9, .int .u8 2, .int .u8 1, .int .u8 0, .int .i32 2]], [.cells [.slice 1 0 2 2 .none, .nilslice, .slice 2 0 1 1 .none, .nilslice, .int .i64 0, .int .i64 1, .int .i64 0, .int .i64 0, .int .i64 0, .int .i64 0, .int .i64 0, .int .i64 0, .int .i64 0, .int .i64 0, .int .i64 0, .int .i64 0, .int .i64 0, .int .i64 0, .int .i64 0, .int .i64 0, .int .i64 0, .int .i64 0, .int .i64 0, .int .i64 1, .int .i64 0, .int .i64 0, .int .i64 0, .int .i32 0, .int .i32 0, .int .i32 1, .int .i32 0, .int .i32 0, .int .i32 0, .int .i32 0, .int .i32 0, .int .i32 0, .slice 3 0 1 1 .none, .slice 4 0 0 0 .none, .int .i64 0, .nilslice, .int .u8 0, .int .u8 0, .int .u8 0, .int .i64 0, .int .u8 0, .int .u8 0, .int .u8 0, .int .u8 0, .int .u8 0, .int .u8 0, .int .u8 0, .int .u8 0, .int .i64 0, .int .u8 0, .int .u8 0, .int .u8 0, .int .u8 0, .int .u8 0, .int .u8 0, .int .u8 0, .int .u8 0, .bool false, .int .u8 0, .int .u8 0, .int .u16 0, .int .u16 0, .int .u16 0, .int .u16 0, .int .u16 0, .int .u16 0, .int .u8 0, .int .u8 0, .int .u8 0, .int .u64 1, .int .u64 0, .int .i64 0, .int .i64 1, .int .i64 0, .nilslice, .ptr 5 0] 83, h25, h1, .cells [.int .i32 0] 21, .cells [] 21, .cells [.int .u64 2] 98], .tuple [], [h26, h25, h1, .cells [.int .i32 0] 21, .cells [] 21, .cells [.int .u64 2] 98]⟩, [(0, 0), (1, 0), (2, 0), (3, 0), (4, 0), (5, 0)])]
theorem k25 : AllT (fstsF g25) := batch ([]) (AllF.nil) g25 (by kernel_rfl)
set_option maxRecDepth 100000 in
def g26 : List (MemF × Bm) := [(⟨9, [.agg [.slice 0 0 2 2 .none, .nilslice, .slice 1 0 1 1 .none, .nilslice, .int .i64 0, .int .i64 1, .int .i64 0]], [h25, h1], .ptr 2 0, [h25, h1, .cells [.slice 0 0 2 2 .none, .nilslice, .slice 1 0 1 1 .none, .nilslice, .int .i64 0, .int .i64 1, .int .i64 0, .int .i64 0, .int .i64 0, .int .i64 0, .int .i64 0, .int .i64 0, .int .i64 0, .int .i64 0, .int .i64 0, .int .i64 0, .int .i64 0, .int .i64 0, .int .i64 0, .int .i64 0, .int .i64 0, .int .i64 0, .int .i64 0, .int .i64 0, .int .i64 0, .int .i64 0, .int .i64 0, .int .i32 0, .int .i32 0, .int .i32 0, .int .i32 0, .int .i32 0, .int .i32 0, .int .i32 0, .int .i32 0, .int .i32 0, .slice 3 0 1 1 .none, .slice 4 0 0 0 .none, .int .i64 0, .nilslice, .int .u8 0, .int .u8 0, .int .u8 0, .int .i64 0, .int .u8 0, .int .u8 0, .int .u8 0, .int .u8 0, .int .u8 0, .int .u8 0, .int .u8 0, .int .u8 0, .int .i64 0, .int .u8 0, .int .u8 0, .int .u8 0, .int .u8 0, .int .u8 0, .int .u8 0, .int .u8 0, .int .u8 0, .bool false, .int .u8 0, .int .u8 0, .int .u16 0, .int .u16 0, .int .u16 0, .int .u16 0, .int .u16 0, .int .u16 0, .int .u8 0, .int .u8 0, .int .u8 0, .int .u64 0, .int .u64 0, .int .i64 0, .int .i64 0, .int .i64 0, .nilslice, .ptr 5 0] 83, .cells [.int .i32 0] 21, .cells [] 21, .cells [.int .u64 0] 98]⟩, [(0, 0), (1, 0), (5, 0), (7, 0), (8, 0), (4, 0)])]
theorem k26 : AllT (fstsF g26) := batch ([]) (AllF.nil) g26 (by kernel_rfl)
set_option maxRecDepth 100000 in
def g27 : List (MemF × Bm) := [(⟨14, [.ptr 0 0], [.cells [.slice 1 0 2 2 .none, .nilslice, .slice 2 0 1 1 .none, .nilslice, .int .i64 0, .int .i64 1, .int .i64 0, .int .i64 0, .int .i64 0, .int .i64 0, .int .i64 0, .int .i64 0, .int .i64 0, .int .i64 0, .int .i64 0, .int .i64 0, .int .i64 0, .int .i64 0, .int .i64 0, .int .i64 0, .int .i64 0, .int .i64 0, .int .i64 0, .int .i64 0, .int .i64 0, .int .i64 0, .int .i64 0, .int .i32 0, .int .i32 0, .int .i32 0, .int .i32 0, .int .i32 0, .int .i32 0, .int .i32 0, .int .i32 0, .int .i32 0, .slice 3 0 1 1 .none, .slice 4 0 0 0 .none, .int .i64 0, .nilslice, .int .u8 0, .int .u8 0, .int .u8 0, .int .i64 0, .int .u8 0, .int .u8 0, .int .u8 0, .int .u8 0, .int .u8 0, .int .u8 0, .int .u8 0, .int .u8 0, .int .i64 0, .int .u8 0, .int .u8 0, .int .u8 0, .int .u8 0, .int .u8 0, .int .u8 0, .int .u8 0, .int .u8 0, .bool false, .int .u8 0, .int .u8 0, .int .u16 0, .int .u16 0, .int .u16 0, .int .u16 0, .int .u16 0, .int .u16 0, .int .u8 0, .int .u8 0, .int .u8 0, .int .u64 0, .int .u64 0, .int .i64 0, .int .i64 0, .int .i64 0, .nilslice, .ptr 5 0] 83, h25, h1, .cells [.int .i32 0] 21, .cells [] 21, .cells [.int .u64 0] 98], .int .i64 0, [h26, h25, h1, .cells [.int .i32 0] 21, .cells [] 21, .cells [.int .u64 2] 98]⟩, [(0, 0), (1, 0), (2, 0), (3, 0), (4, 0), (5, 0)])]
theorem k27 : AllT (fstsF g27) := batch (fstsF g25 ++ ([])) (AllF.append k25 (AllF.nil)) g27 (by kernel_rfl)
set_option maxRecDepth 100000 in
def g28 : List (MemF × Bm) := [(⟨19, [.agg [.slice 0 0 1 1 .none, .nilslice, .slice 1 0 1 1 .none, .nilslice, .int .i64 0, .int .i64 0, .int .i64 3], .int .i64 4, .int .i64 0], [h27, h1], .bool true, [h27, h1]⟩, [(0, 0), (1, 0)])]
theorem k28 : AllT (fstsF g28) := batch ([]) (AllF.nil) g28 (by kernel_rfl)
set_option maxRecDepth 100000 in
def g29 : List (MemF × Bm) := [(⟨19, [.agg [.slice 0 0 1 1 .none, .nilslice, .slice 1 0 1 1 .none, .nilslice, .int .i64 0, .int .i64 0, .int .i64 3], .int .i64 4, .int .i64 0], [h28, h1], .bool true, [h28, h1]⟩, [(0, 0), (1, 0)])]
theorem k29 : AllT (fstsF g29) := batch ([]) (AllF.nil) g29 (by kernel_rfl)
set_option maxRecDepth 100000 in
def g30 : List (MemF × Bm) := [(⟨19, [.agg [.slice 0 0 1 1 .none, .nilslice, .slice 1 0 1 1 .none, .nilslice, .int .i64 0, .int .i64 0, .int .i64 3], .int .i64 5, .int .i64 0], [h29, h1], .bool true, [h29, h1]⟩, [(0, 0), (1, 0)])]
theorem k30 : AllT (fstsF g30) := batch ([]) (AllF.nil) g30 (by kernel_rfl)
set_option maxRecDepth 100000 in
def g31 : List (MemF × Bm) := [(⟨19, [.agg [.slice 0 0 2 2 .none, .nilslice, .slice 1 0 1 1 .none, .nilslice, .int .i64 0, .int .i64 0, .int .i64 0], .int .i64 5, .int .i64 2], [h30, h1], .bool true, [h30, h1]⟩, [(0, 0), (1, 0)])]
theorem k31 : AllT (fstsF g31) := batch ([]) (AllF.nil) g31 (by kernel_rfl)
set_option maxRecDepth 100000 in
def g32 : List (MemF × Bm) := [(⟨19, [.agg [.slice 0 0 1 1 .none, .nilslice, .slice 1 0 1 1 .none, .nilslice, .int .i64 0, .int .i64 0, .int .i64 0], .int .i64 5, .int .i64 (-1)], [h31, h1], .bool true, [h31, h1]⟩, [(0, 0), (1, 0)])]
theorem k32 : AllT (fstsF g32) := batch ([]) (AllF.nil) g32 (by kernel_rfl)
set_option maxRecDepth 100000 in
def g33 : List (MemF × Bm) := [(⟨19, [.agg [.slice 0 0 1 1 .none, .nilslice, .slice 1 0 1 1 .none, .nilslice, .int .i64 0, .int .i64 0, .int .i64 0], .int .i64 5, .int .i64 0], [h0, h1], .bool true, [h0, h1]⟩, [(0, 0), (1, 0)])]
theorem k33 : AllT (fstsF g33) := batch (fstsF g0 ++ ([])) (AllF.append k0 (AllF.nil)) g33 (by kernel_rfl)
set_option maxRecDepth 100000 in
def g34 : List (MemF × Bm) := [(⟨19, [.agg [.slice 0 0 1 1 .none, .nilslice, .slice 1 0 1 1 .none, .nilslice, .int .i64 0, .int .i64 0, .int .i64 0], .int .i64 5, .int .i64 0], [h32, h1], .bool true, [h32, h1]⟩, [(0, 0), (1, 0)])]
theorem k34 : AllT (fstsF g34) := batch ([]) (AllF.nil) g34 (by kernel_rfl)
set_option maxRecDepth 100000 in
def g35 : List (MemF × Bm) := [(⟨19, [.agg [.slice 0 0 1 1 .none, .nilslice, .slice 1 0 1 1 .none, .nilslice, .int .i64 0, .int .i64 0, .int .i64 9], .int .i64 5, .int .i64 0], [h33, h1], .bool true, [h33, h1]⟩, [(0, 0), (1, 0)])]
theorem k35 : AllT (fstsF g35) := batch ([]) (AllF.nil) g35 (by kernel_rfl)
set_option maxRecDepth 100000 in
def g36 : List (MemF × Bm) := [(⟨19, [.agg [.slice 0 0 1 1 .none, .nilslice, .slice 1 0 1 1 .none, .nilslice, .int .i64 0, .int .i64 0, .int .i64 1], .int .i64 5, .int .i64 0], [h34, h1], .bool true, [h34, h1]⟩, [(0, 0), (1, 0)])]
theorem k36 : AllT (fstsF g36) := batch ([]) (AllF.nil) g36 (by kernel_rfl)
end
end Go.Proofs.YtipejmklkmccnaaGreat.vmKnown
