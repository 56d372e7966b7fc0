/- Calls over literal memory of ploverlaw17.MeanKnown, reckoned in the kernel: part 22. -/
import Derived.Test.YtnllfdcaloilnaaGreatRows
import Derived.WalkKit
import Derived.ProofKit
import Derived.OpenShut
import Derived.Below
import Derived.ChangeSame
import Derived.Laws.Externs
import Derived.Laws.LoneSync
import Derived.Test.YtnllfdcaloilnaaGreatMka
namespace Go.Proofs.YtnllfdcaloilnaaGreat.meanKnown
open Go.ChangeShapes Go.WideShapes Go.ChangeAt Go.RowKit
set_option linter.unusedVariables false

section
open Go.Ev
set_option linter.unusedSimpArgs false
set_option maxRecDepth 100000 in
def g99 : List (MemF × Bm) := [(⟨16, [.ptr 0 0], [h172, h173, .cells [.int .i64 1, .int .i64 0, .int .u8 1] 25, h183, .cells [] 21, h175, h169, h170, .cells [.int .i64 1, .int .i64 0, .int .u8 1] 25, .cells [] 21], .int .i64 0, [h172, h173, .cells [.int .i64 1, .int .i64 0, .int .u8 1] 25, h184, .cells [] 21, h175, h169, h170, .cells [.int .i64 1, .int .i64 0, .int .u8 1] 25, .cells [] 21]⟩, [(0, 0), (1, 0), (2, 0), (3, 0), (4, 0), (5, 0), (6, 0), (7, 0), (8, 0), (9, 0)])]
theorem k99 : AllT (fstsF g99) := batch ([]) (AllF.nil) g99 (by kernel_rfl)
set_option maxRecDepth 100000 in
def g100 : List (MemF × Bm) := [(⟨16, [.ptr 0 0], [h172, h173, .cells [.int .i64 1, .int .i64 0, .int .u8 1] 25, h184, .cells [] 21, h175, h169, h170, .cells [.int .i64 1, .int .i64 0, .int .u8 1] 25, .cells [] 21], .int .i64 0, [h172, h173, .cells [.int .i64 1, .int .i64 0, .int .u8 1] 25, h185, .cells [] 21, h175, h169, h170, .cells [.int .i64 1, .int .i64 0, .int .u8 1] 25, .cells [] 21]⟩, [(0, 0), (1, 0), (2, 0), (3, 0), (4, 0), (5, 0), (6, 0), (7, 0), (8, 0), (9, 0)])]
theorem k100 : AllT (fstsF g100) := batch ([]) (AllF.nil) g100 (by kernel_rfl)
set_option maxRecDepth 100000 in
def g101 : List (MemF × Bm) := [(⟨16, [.ptr 0 0], [h172, h173, .cells [.int .i64 1, .int .i64 0, .int .u8 1] 25, h185, .cells [] 21, h175, h169, h170, .cells [.int .i64 1, .int .i64 0, .int .u8 1] 25, .cells [] 21], .int .i64 0, [h172, h173, .cells [.int .i64 1, .int .i64 0, .int .u8 1] 25, h186, .cells [] 21, h175, h169, h170, .cells [.int .i64 1, .int .i64 0, .int .u8 1] 25, .cells [] 21]⟩, [(0, 0), (1, 0), (2, 0), (3, 0), (4, 0), (5, 0), (6, 0), (7, 0), (8, 0), (9, 0)])]
theorem k101 : AllT (fstsF g101) := batch ([]) (AllF.nil) g101 (by kernel_rfl)
set_option maxRecDepth 100000 in
def g102 : List (MemF × Bm) := [(⟨16, [.ptr 0 0], [h172, h173, .cells [.int .i64 1, .int .i64 0, .int .u8 1] 25, h186, .cells [] 21, h175, h169, h170, .cells [.int .i64 1, .int .i64 0, .int .u8 1] 25, .cells [] 21], .int .i64 0, [h172, h173, .cells [.int .i64 1, .int .i64 0, .int .u8 1] 25, h187, .cells [] 21, h175, h169, h170, .cells [.int .i64 1, .int .i64 0, .int .u8 1] 25, .cells [] 21]⟩, [(0, 0), (1, 0), (2, 0), (3, 0), (4, 0), (5, 0), (6, 0), (7, 0), (8, 0), (9, 0)])]
theorem k102 : AllT (fstsF g102) := batch ([]) (AllF.nil) g102 (by kernel_rfl)
set_option maxRecDepth 100000 in
def g103 : List (MemF × Bm) := [(⟨16, [.ptr 0 0], [h172, h173, .cells [.int .i64 1, .int .i64 0, .int .u8 1] 25, h187, .cells [] 21, h175, h169, h170, .cells [.int .i64 1, .int .i64 0, .int .u8 1] 25, .cells [] 21], .int .i64 0, [h172, h173, .cells [.int .i64 1, .int .i64 0, .int .u8 1] 25, h188, .cells [] 21, h175, h169, h170, .cells [.int .i64 1, .int .i64 0, .int .u8 1] 25, .cells [] 21]⟩, [(0, 0), (1, 0), (2, 0), (3, 0), (4, 0), (5, 0), (6, 0), (7, 0), (8, 0), (9, 0)])]
theorem k103 : AllT (fstsF g103) := batch ([]) (AllF.nil) g103 (by kernel_rfl)
set_option maxRecDepth 100000 in
def g104 : List (MemF × Bm) := [(⟨16, [.ptr 0 0], [h172, h173, .cells [.int .i64 1, .int .i64 0, .int .u8 1] 25, h188, .cells [] 21, h175, h169, h170, .cells [.int .i64 1, .int .i64 0, .int .u8 1] 25, .cells [] 21], .int .i64 0, [h172, h173, .cells [.int .i64 1, .int .i64 0, .int .u8 1] 25, h189, .cells [] 21, h175, h169, h170, .cells [.int .i64 1, .int .i64 0, .int .u8 1] 25, .cells [] 21]⟩, [(0, 0), (1, 0), (2, 0), (3, 0), (4, 0), (5, 0), (6, 0), (7, 0), (8, 0), (9, 0)])]
theorem k104 : AllT (fstsF g104) := batch ([]) (AllF.nil) g104 (by kernel_rfl)
set_option maxRecDepth 100000 in
def g105 : List (MemF × Bm) := [(⟨16, [.ptr 0 0], [h172, h173, .cells [.int .i64 1, .int .i64 0, .int .u8 1] 25, h189, .cells [] 21, h175, h169, h170, .cells [.int .i64 1, .int .i64 0, .int .u8 1] 25, .cells [] 21], .int .i64 0, [h172, h173, .cells [.int .i64 1, .int .i64 0, .int .u8 1] 25, h190, .cells [] 21, h175, h169, h170, .cells [.int .i64 1, .int .i64 0, .int .u8 1] 25, .cells [] 21]⟩, [(0, 0), (1, 0), (2, 0), (3, 0), (4, 0), (5, 0), (6, 0), (7, 0), (8, 0), (9, 0)])]
theorem k105 : AllT (fstsF g105) := batch ([]) (AllF.nil) g105 (by kernel_rfl)
set_option maxRecDepth 100000 in
def g106 : List (MemF × Bm) := [(⟨16, [.ptr 0 0], [h172, h173, .cells [.int .i64 1, .int .i64 0, .int .u8 1] 25, h190, .cells [] 21, h175, h169, h170, .cells [.int .i64 1, .int .i64 0, .int .u8 1] 25, .cells [] 21], .int .i64 0, [h172, h173, .cells [.int .i64 1, .int .i64 0, .int .u8 1] 25, h191, .cells [] 21, h175, h169, h170, .cells [.int .i64 1, .int .i64 0, .int .u8 1] 25, .cells [] 21]⟩, [(0, 0), (1, 0), (2, 0), (3, 0), (4, 0), (5, 0), (6, 0), (7, 0), (8, 0), (9, 0)])]
theorem k106 : AllT (fstsF g106) := batch ([]) (AllF.nil) g106 (by kernel_rfl)
set_option maxRecDepth 100000 in
def g107 : List (MemF × Bm) := [(⟨16, [.ptr 0 0], [h172, h173, .cells [.int .i64 1, .int .i64 0, .int .u8 1] 25, h191, .cells [] 21, h175, h169, h170, .cells [.int .i64 1, .int .i64 0, .int .u8 1] 25, .cells [] 21], .int .i64 0, [h172, h173, .cells [.int .i64 1, .int .i64 0, .int .u8 1] 25, h192, .cells [] 21, h175, h169, h170, .cells [.int .i64 1, .int .i64 0, .int .u8 1] 25, .cells [] 21]⟩, [(0, 0), (1, 0), (2, 0), (3, 0), (4, 0), (5, 0), (6, 0), (7, 0), (8, 0), (9, 0)])]
theorem k107 : AllT (fstsF g107) := batch ([]) (AllF.nil) g107 (by kernel_rfl)
set_option maxRecDepth 100000 in
def g108 : List (MemF × Bm) := [(⟨16, [.ptr 0 0], [h172, h173, .cells [.int .i64 1, .int .i64 0, .int .u8 1] 25, h192, .cells [] 21, h175, h169, h170, .cells [.int .i64 1, .int .i64 0, .int .u8 1] 25, .cells [] 21], .int .i64 0, [h172, h173, .cells [.int .i64 1, .int .i64 0, .int .u8 1] 25, h193, .cells [] 21, h175, h169, h170, .cells [.int .i64 1, .int .i64 0, .int .u8 1] 25, .cells [] 21]⟩, [(0, 0), (1, 0), (2, 0), (3, 0), (4, 0), (5, 0), (6, 0), (7, 0), (8, 0), (9, 0)])]
theorem k108 : AllT (fstsF g108) := batch ([]) (AllF.nil) g108 (by kernel_rfl)
set_option maxRecDepth 100000 in
def g109 : List (MemF × Bm) := [(⟨16, [.ptr 0 0], [h172, h173, .cells [.int .i64 1, .int .i64 0, .int .u8 1] 25, h193, .cells [] 21, h175, h169, h170, .cells [.int .i64 1, .int .i64 0, .int .u8 1] 25, .cells [] 21], .int .i64 0, [h172, h173, .cells [.int .i64 1, .int .i64 0, .int .u8 1] 25, h194, .cells [] 21, h175, h169, h170, .cells [.int .i64 1, .int .i64 0, .int .u8 1] 25, .cells [] 21]⟩, [(0, 0), (1, 0), (2, 0), (3, 0), (4, 0), (5, 0), (6, 0), (7, 0), (8, 0), (9, 0)])]
theorem k109 : AllT (fstsF g109) := batch ([]) (AllF.nil) g109 (by kernel_rfl)
set_option maxRecDepth 100000 in
def g110 : List (MemF × Bm) := [(⟨16, [.ptr 0 0], [h172, h173, .cells [.int .i64 1, .int .i64 0, .int .u8 1] 25, h194, .cells [] 21, h175, h169, h170, .cells [.int .i64 1, .int .i64 0, .int .u8 1] 25, .cells [] 21], .int .i64 0, [h172, h173, .cells [.int .i64 1, .int .i64 0, .int .u8 1] 25, h195, .cells [] 21, h175, h169, h170, .cells [.int .i64 1, .int .i64 0, .int .u8 1] 25, .cells [] 21]⟩, [(0, 0), (1, 0), (2, 0), (3, 0), (4, 0), (5, 0), (6, 0), (7, 0), (8, 0), (9, 0)])]
theorem k110 : AllT (fstsF g110) := batch ([]) (AllF.nil) g110 (by kernel_rfl)
set_option maxRecDepth 100000 in
def g111 : List (MemF × Bm) := [(⟨16, [.ptr 0 0], [h172, h173, .cells [.int .i64 1, .int .i64 0, .int .u8 1] 25, h195, .cells [] 21, h175, h169, h170, .cells [.int .i64 1, .int .i64 0, .int .u8 1] 25, .cells [] 21], .int .i64 0, [h172, h173, .cells [.int .i64 1, .int .i64 0, .int .u8 1] 25, h196, .cells [] 21, h175, h169, h170, .cells [.int .i64 1, .int .i64 0, .int .u8 1] 25, .cells [] 21]⟩, [(0, 0), (1, 0), (2, 0), (3, 0), (4, 0), (5, 0), (6, 0), (7, 0), (8, 0), (9, 0)])]
theorem k111 : AllT (fstsF g111) := batch ([]) (AllF.nil) g111 (by kernel_rfl)
set_option maxRecDepth 100000 in
def g112 : List (MemF × Bm) := [(⟨16, [.ptr 0 0], [h172, h173, .cells [.int .i64 1, .int .i64 0, .int .u8 1] 25, h196, .cells [] 21, h175, h169, h170, .cells [.int .i64 1, .int .i64 0, .int .u8 1] 25, .cells [] 21], .int .i64 0, [h172, h173, .cells [.int .i64 1, .int .i64 0, .int .u8 1] 25, h197, .cells [] 21, h175, h169, h170, .cells [.int .i64 1, .int .i64 0, .int .u8 1] 25, .cells [] 21]⟩, [(0, 0), (1, 0), (2, 0), (3, 0), (4, 0), (5, 0), (6, 0), (7, 0), (8, 0), (9, 0)])]
theorem k112 : AllT (fstsF g112) := batch ([]) (AllF.nil) g112 (by kernel_rfl)
set_option maxRecDepth 100000 in
def g113 : List (MemF × Bm) := [(⟨16, [.ptr 0 0], [h172, h173, .cells [.int .i64 1, .int .i64 0, .int .u8 1] 25, h197, .cells [] 21, h175, h169, h170, .cells [.int .i64 1, .int .i64 0, .int .u8 1] 25, .cells [] 21], .int .i64 0, [h172, h173, .cells [.int .i64 1, .int .i64 0, .int .u8 1] 25, h198, .cells [] 21, h175, h169, h170, .cells [.int .i64 1, .int .i64 0, .int .u8 1] 25, .cells [] 21]⟩, [(0, 0), (1, 0), (2, 0), (3, 0), (4, 0), (5, 0), (6, 0), (7, 0), (8, 0), (9, 0)])]
theorem k113 : AllT (fstsF g113) := batch ([]) (AllF.nil) g113 (by kernel_rfl)
set_option maxRecDepth 100000 in
def g114 : List (MemF × Bm) := [(⟨16, [.ptr 0 0], [h172, h173, .cells [.int .i64 1, .int .i64 0, .int .u8 1] 25, h198, .cells [] 21, h175, h169, h170, .cells [.int .i64 1, .int .i64 0, .int .u8 1] 25, .cells [] 21], .int .i64 0, [h172, h173, .cells [.int .i64 1, .int .i64 0, .int .u8 1] 25, h199, .cells [] 21, h175, h169, h170, .cells [.int .i64 1, .int .i64 0, .int .u8 1] 25, .cells [] 21]⟩, [(0, 0), (1, 0), (2, 0), (3, 0), (4, 0), (5, 0), (6, 0), (7, 0), (8, 0), (9, 0)])]
theorem k114 : AllT (fstsF g114) := batch ([]) (AllF.nil) g114 (by kernel_rfl)
set_option maxRecDepth 100000 in
def g115 : List (MemF × Bm) := [(⟨16, [.ptr 0 0], [h172, h173, .cells [.int .i64 1, .int .i64 0, .int .u8 1] 25, h199, .cells [] 21, h175, h169, h170, .cells [.int .i64 1, .int .i64 0, .int .u8 1] 25, .cells [] 21], .int .i64 0, [h172, h173, .cells [.int .i64 1, .int .i64 0, .int .u8 1] 25, h200, .cells [] 21, h175, h169, h170, .cells [.int .i64 1, .int .i64 0, .int .u8 1] 25, .cells [] 21]⟩, [(0, 0), (1, 0), (2, 0), (3, 0), (4, 0), (5, 0), (6, 0), (7, 0), (8, 0), (9, 0)])]
theorem k115 : AllT (fstsF g115) := batch ([]) (AllF.nil) g115 (by kernel_rfl)
set_option maxRecDepth 100000 in
def g116 : List (MemF × Bm) := [(⟨16, [.ptr 0 0], [h172, h173, .cells [.int .i64 1, .int .i64 0, .int .u8 1] 25, h200, .cells [] 21, h175, h169, h170, .cells [.int .i64 1, .int .i64 0, .int .u8 1] 25, .cells [] 21], .int .i64 0, [h172, h173, .cells [.int .i64 1, .int .i64 0, .int .u8 1] 25, h201, .cells [] 21, h175, h169, h170, .cells [.int .i64 1, .int .i64 0, .int .u8 1] 25, .cells [] 21]⟩, [(0, 0), (1, 0), (2, 0), (3, 0), (4, 0), (5, 0), (6, 0), (7, 0), (8, 0), (9, 0)])]
theorem k116 : AllT (fstsF g116) := batch ([]) (AllF.nil) g116 (by kernel_rfl)
set_option maxRecDepth 100000 in
def g117 : List (MemF × Bm) := [(⟨16, [.ptr 0 0], [h172, h173, .cells [.int .i64 1, .int .i64 0, .int .u8 1] 25, h201, .cells [] 21, h175, h169, h170, .cells [.int .i64 1, .int .i64 0, .int .u8 1] 25, .cells [] 21], .int .i64 0, [h172, h173, .cells [.int .i64 1, .int .i64 0, .int .u8 1] 25, h202, .cells [] 21, h175, h169, h170, .cells [.int .i64 1, .int .i64 0, .int .u8 1] 25, .cells [] 21]⟩, [(0, 0), (1, 0), (2, 0), (3, 0), (4, 0), (5, 0), (6, 0), (7, 0), (8, 0), (9, 0)])]
theorem k117 : AllT (fstsF g117) := batch ([]) (AllF.nil) g117 (by kernel_rfl)
set_option maxRecDepth 100000 in
def g118 : List (MemF × Bm) := [(⟨16, [.ptr 0 0], [h172, h173, .cells [.int .i64 1, .int .i64 0, .int .u8 1] 25, h202, .cells [] 21, h175, h169, h170, .cells [.int .i64 1, .int .i64 0, .int .u8 1] 25, .cells [] 21], .int .i64 0, [h172, h173, .cells [.int .i64 1, .int .i64 0, .int .u8 1] 25, h203, .cells [] 21, h175, h169, h170, .cells [.int .i64 1, .int .i64 0, .int .u8 1] 25, .cells [] 21]⟩, [(0, 0), (1, 0), (2, 0), (3, 0), (4, 0), (5, 0), (6, 0), (7, 0), (8, 0), (9, 0)])]
theorem k118 : AllT (fstsF g118) := batch ([]) (AllF.nil) g118 (by kernel_rfl)
set_option maxRecDepth 100000 in
def g119 : List (MemF × Bm) := [(⟨16, [.ptr 0 0], [h172, h173, .cells [.int .i64 1, .int .i64 0, .int .u8 1] 25, h203, .cells [] 21, h175, h169, h170, .cells [.int .i64 1, .int .i64 0, .int .u8 1] 25, .cells [] 21], .int .i64 0, [h172, h173, .cells [.int .i64 1, .int .i64 0, .int .u8 1] 25, h204, .cells [] 21, h175, h169, h170, .cells [.int .i64 1, .int .i64 0, .int .u8 1] 25, .cells [] 21]⟩, [(0, 0), (1, 0), (2, 0), (3, 0), (4, 0), (5, 0), (6, 0), (7, 0), (8, 0), (9, 0)])]
theorem k119 : AllT (fstsF g119) := batch ([]) (AllF.nil) g119 (by kernel_rfl)
set_option maxRecDepth 100000 in
def g120 : List (MemF × Bm) := [(⟨16, [.ptr 0 0], [h172, h173, .cells [.int .i64 1, .int .i64 0, .int .u8 1] 25, h204, .cells [] 21, h175, h169, h170, .cells [.int .i64 1, .int .i64 0, .int .u8 1] 25, .cells [] 21], .int .i64 0, [h172, h173, .cells [.int .i64 1, .int .i64 0, .int .u8 1] 25, h205, .cells [] 21, h175, h169, h170, .cells [.int .i64 1, .int .i64 0, .int .u8 1] 25, .cells [] 21]⟩, [(0, 0), (1, 0), (2, 0), (3, 0), (4, 0), (5, 0), (6, 0), (7, 0), (8, 0), (9, 0)])]
theorem k120 : AllT (fstsF g120) := batch ([]) (AllF.nil) g120 (by kernel_rfl)
set_option maxRecDepth 100000 in
def g121 : List (MemF × Bm) := [(⟨16, [.ptr 0 0], [h172, h173, .cells [.int .i64 1, .int .i64 0, .int .u8 1] 25, h205, .cells [] 21, h175, h169, h170, .cells [.int .i64 1, .int .i64 0, .int .u8 1] 25, .cells [] 21], .int .i64 0, [h172, h173, .cells [.int .i64 1, .int .i64 0, .int .u8 1] 25, h206, .cells [] 21, h175, h169, h170, .cells [.int .i64 1, .int .i64 0, .int .u8 1] 25, .cells [] 21]⟩, [(0, 0), (1, 0), (2, 0), (3, 0), (4, 0), (5, 0), (6, 0), (7, 0), (8, 0), (9, 0)])]
theorem k121 : AllT (fstsF g121) := batch ([]) (AllF.nil) g121 (by kernel_rfl)
set_option maxRecDepth 100000 in
def g122 : List (MemF × Bm) := [(⟨16, [.ptr 0 0], [h172, h173, .cells [.int .i64 1, .int .i64 0, .int .u8 1] 25, h206, .cells [] 21, h175, h169, h170, .cells [.int .i64 1, .int .i64 0, .int .u8 1] 25, .cells [] 21], .int .i64 0, [h172, h173, .cells [.int .i64 1, .int .i64 0, .int .u8 1] 25, h207, .cells [] 21, h175, h169, h170, .cells [.int .i64 1, .int .i64 0, .int .u8 1] 25, .cells [] 21]⟩, [(0, 0), (1, 0), (2, 0), (3, 0), (4, 0), (5, 0), (6, 0), (7, 0), (8, 0), (9, 0)])]
theorem k122 : AllT (fstsF g122) := batch ([]) (AllF.nil) g122 (by kernel_rfl)
end
end Go.Proofs.YtnllfdcaloilnaaGreat.meanKnown
