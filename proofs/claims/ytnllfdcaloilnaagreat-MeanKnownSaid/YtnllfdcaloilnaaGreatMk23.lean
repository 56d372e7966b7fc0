/- Calls over literal memory of ploverlaw17.MeanKnown, reckoned in the kernel: part 23. -/
import Derived.Test.YtnllfdcaloilnaaGreatRows
import Derived.WalkKit
import Derived.ProofKit
import Derived.OpenShut
import Derived.Below
import Derived.ChangeSame
import Derived.Laws.Externs
import Derived.Laws.LoneSync
import Derived.Test.YtnllfdcaloilnaaGreatMka
namespace Go.Proofs.YtnllfdcaloilnaaGreat.meanKnown
open Go.ChangeShapes Go.WideShapes Go.ChangeAt Go.RowKit
set_option linter.unusedVariables false

section
open Go.Ev
set_option linter.unusedSimpArgs false
set_option maxRecDepth 100000 in
def g123 : List (MemF × Bm) := [(⟨16, [.ptr 0 0], [h172, h173, .cells [.int .i64 1, .int .i64 0, .int .u8 1] 25, h207, .cells [] 21, h175, h169, h170, .cells [.int .i64 1, .int .i64 0, .int .u8 1] 25, .cells [] 21], .int .i64 0, [h172, h173, .cells [.int .i64 1, .int .i64 0, .int .u8 1] 25, h208, .cells [] 21, h175, h169, h170, .cells [.int .i64 1, .int .i64 0, .int .u8 1] 25, .cells [] 21]⟩, [(0, 0), (1, 0), (2, 0), (3, 0), (4, 0), (5, 0), (6, 0), (7, 0), (8, 0), (9, 0)])]
theorem k123 : AllT (fstsF g123) := batch ([]) (AllF.nil) g123 (by kernel_rfl)
set_option maxRecDepth 100000 in
def g124 : List (MemF × Bm) := [(⟨16, [.ptr 0 0], [h172, h173, .cells [.int .i64 1, .int .i64 0, .int .u8 1] 25, h208, .cells [] 21, h175, h169, h170, .cells [.int .i64 1, .int .i64 0, .int .u8 1] 25, .cells [] 21], .int .i64 0, [h172, h173, .cells [.int .i64 1, .int .i64 0, .int .u8 1] 25, h209, .cells [] 21, h175, h169, h170, .cells [.int .i64 1, .int .i64 0, .int .u8 1] 25, .cells [] 21]⟩, [(0, 0), (1, 0), (2, 0), (3, 0), (4, 0), (5, 0), (6, 0), (7, 0), (8, 0), (9, 0)])]
theorem k124 : AllT (fstsF g124) := batch ([]) (AllF.nil) g124 (by kernel_rfl)
set_option maxRecDepth 100000 in
def g125 : List (MemF × Bm) := [(⟨16, [.ptr 0 0], [h172, h173, .cells [.int .i64 1, .int .i64 0, .int .u8 1] 25, h209, .cells [] 21, h175, h169, h170, .cells [.int .i64 1, .int .i64 0, .int .u8 1] 25, .cells [] 21], .int .i64 0, [h172, h173, .cells [.int .i64 1, .int .i64 0, .int .u8 1] 25, h210, .cells [] 21, h175, h169, h170, .cells [.int .i64 1, .int .i64 0, .int .u8 1] 25, .cells [] 21]⟩, [(0, 0), (1, 0), (2, 0), (3, 0), (4, 0), (5, 0), (6, 0), (7, 0), (8, 0), (9, 0)])]
theorem k125 : AllT (fstsF g125) := batch ([]) (AllF.nil) g125 (by kernel_rfl)
set_option maxRecDepth 100000 in
def g126 : List (MemF × Bm) := [(⟨16, [.ptr 0 0], [h172, h173, .cells [.int .i64 1, .int .i64 0, .int .u8 1] 25, h210, .cells [] 21, h175, h169, h170, .cells [.int .i64 1, .int .i64 0, .int .u8 1] 25, .cells [] 21], .int .i64 0, [h172, h173, .cells [.int .i64 1, .int .i64 0, .int .u8 1] 25, h211, .cells [] 21, h175, h169, h170, .cells [.int .i64 1, .int .i64 0, .int .u8 1] 25, .cells [] 21]⟩, [(0, 0), (1, 0), (2, 0), (3, 0), (4, 0), (5, 0), (6, 0), (7, 0), (8, 0), (9, 0)])]
theorem k126 : AllT (fstsF g126) := batch ([]) (AllF.nil) g126 (by kernel_rfl)
set_option maxRecDepth 100000 in
def g127 : List (MemF × Bm) := [(⟨16, [.ptr 0 0], [h172, h173, .cells [.int .i64 1, .int .i64 0, .int .u8 1] 25, h211, .cells [] 21, h175, h169, h170, .cells [.int .i64 1, .int .i64 0, .int .u8 1] 25, .cells [] 21], .int .i64 0, [h172, h173, .cells [.int .i64 1, .int .i64 0, .int .u8 1] 25, h212, .cells [] 21, h175, h169, h170, .cells [.int .i64 1, .int .i64 0, .int .u8 1] 25, .cells [] 21]⟩, [(0, 0), (1, 0), (2, 0), (3, 0), (4, 0), (5, 0), (6, 0), (7, 0), (8, 0), (9, 0)])]
theorem k127 : AllT (fstsF g127) := batch ([]) (AllF.nil) g127 (by kernel_rfl)
set_option maxRecDepth 100000 in
def g128 : List (MemF × Bm) := [(⟨16, [.ptr 0 0], [h172, h173, .cells [.int .i64 1, .int .i64 0, .int .u8 1] 25, h212, .cells [] 21, h175, h169, h170, .cells [.int .i64 1, .int .i64 0, .int .u8 1] 25, .cells [] 21], .int .i64 0, [h172, h173, .cells [.int .i64 1, .int .i64 0, .int .u8 1] 25, h213, .cells [] 21, h175, h169, h170, .cells [.int .i64 1, .int .i64 0, .int .u8 1] 25, .cells [] 21]⟩, [(0, 0), (1, 0), (2, 0), (3, 0), (4, 0), (5, 0), (6, 0), (7, 0), (8, 0), (9, 0)])]
theorem k128 : AllT (fstsF g128) := batch ([]) (AllF.nil) g128 (by kernel_rfl)
set_option maxRecDepth 100000 in
def g129 : List (MemF × Bm) := [(⟨16, [.ptr 0 0], [h172, h173, .cells [.int .i64 1, .int .i64 0, .int .u8 1] 25, h213, .cells [] 21, h175, h169, h170, .cells [.int .i64 1, .int .i64 0, .int .u8 1] 25, .cells [] 21], .int .i64 0, [h172, h173, .cells [.int .i64 1, .int .i64 0, .int .u8 1] 25, h214, .cells [] 21, h175, h169, h170, .cells [.int .i64 1, .int .i64 0, .int .u8 1] 25, .cells [] 21]⟩, [(0, 0), (1, 0), (2, 0), (3, 0), (4, 0), (5, 0), (6, 0), (7, 0), (8, 0), (9, 0)])]
theorem k129 : AllT (fstsF g129) := batch ([]) (AllF.nil) g129 (by kernel_rfl)
set_option maxRecDepth 100000 in
def g130 : List (MemF × Bm) := [(⟨16, [.ptr 0 0], [h172, h173, .cells [.int .i64 1, .int .i64 0, .int .u8 1] 25, h214, .cells [] 21, h175, h169, h170, .cells [.int .i64 1, .int .i64 0, .int .u8 1] 25, .cells [] 21], .int .i64 0, [h172, h173, .cells [.int .i64 1, .int .i64 0, .int .u8 1] 25, h215, .cells [] 21, h175, h169, h170, .cells [.int .i64 1, .int .i64 0, .int .u8 1] 25, .cells [] 21]⟩, [(0, 0), (1, 0), (2, 0), (3, 0), (4, 0), (5, 0), (6, 0), (7, 0), (8, 0), (9, 0)])]
theorem k130 : AllT (fstsF g130) := batch ([]) (AllF.nil) g130 (by kernel_rfl)
set_option maxRecDepth 100000 in
def g131 : List (MemF × Bm) := [(⟨16, [.ptr 0 0], [h172, h173, .cells [.int .i64 1, .int .i64 0, .int .u8 1] 25, h215, .cells [] 21, h175, h169, h170, .cells [.int .i64 1, .int .i64 0, .int .u8 1] 25, .cells [] 21], .int .i64 0, [h172, h173, .cells [.int .i64 1, .int .i64 0, .int .u8 1] 25, h216, .cells [] 21, h175, h169, h170, .cells [.int .i64 1, .int .i64 0, .int .u8 1] 25, .cells [] 21]⟩, [(0, 0), (1, 0), (2, 0), (3, 0), (4, 0), (5, 0), (6, 0), (7, 0), (8, 0), (9, 0)])]
theorem k131 : AllT (fstsF g131) := batch ([]) (AllF.nil) g131 (by kernel_rfl)
set_option maxRecDepth 100000 in
def g132 : List (MemF × Bm) := [(⟨16, [.ptr 0 0], [h172, h173, .cells [.int .i64 1, .int .i64 0, .int .u8 1] 25, h216, .cells [] 21, h175, h169, h170, .cells [.int .i64 1, .int .i64 0, .int .u8 1] 25, .cells [] 21], .int .i64 0, [h172, h173, .cells [.int .i64 1, .int .i64 0, .int .u8 1] 25, h217, .cells [] 21, h175, h169, h170, .cells [.int .i64 1, .int .i64 0, .int .u8 1] 25, .cells [] 21]⟩, [(0, 0), (1, 0), (2, 0), (3, 0), (4, 0), (5, 0), (6, 0), (7, 0), (8, 0), (9, 0)])]
theorem k132 : AllT (fstsF g132) := batch ([]) (AllF.nil) g132 (by kernel_rfl)
set_option maxRecDepth 100000 in
def g133 : List (MemF × Bm) := [(⟨16, [.ptr 0 0], [h172, h173, .cells [.int .i64 1, .int .i64 0, .int .u8 1] 25, h217, .cells [] 21, h175, h169, h170, .cells [.int .i64 1, .int .i64 0, .int .u8 1] 25, .cells [] 21], .int .i64 0, [h172, h173, .cells [.int .i64 1, .int .i64 0, .int .u8 1] 25, h218, .cells [] 21, h175, h169, h170, .cells [.int .i64 1, .int .i64 0, .int .u8 1] 25, .cells [] 21]⟩, [(0, 0), (1, 0), (2, 0), (3, 0), (4, 0), (5, 0), (6, 0), (7, 0), (8, 0), (9, 0)])]
theorem k133 : AllT (fstsF g133) := batch ([]) (AllF.nil) g133 (by kernel_rfl)
end
end Go.Proofs.YtnllfdcaloilnaaGreat.meanKnown
