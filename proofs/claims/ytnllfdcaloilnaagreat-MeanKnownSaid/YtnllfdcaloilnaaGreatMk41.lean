/- Calls over literal memory of ploverlaw17.MeanKnown, reckoned in the kernel: part 41. -/
import Derived.Test.YtnllfdcaloilnaaGreatRows
import Derived.WalkKit
import Derived.ProofKit
import Derived.OpenShut
import Derived.Below
import Derived.ChangeSame
import Derived.Laws.Externs
import Derived.Laws.LoneSync
import Derived.Test.YtnllfdcaloilnaaGreatMka
import Derived.Test.YtnllfdcaloilnaaGreatMk7
import Derived.Test.YtnllfdcaloilnaaGreatMk33
import Derived.Test.YtnllfdcaloilnaaGreatMk34
import Derived.Test.YtnllfdcaloilnaaGreatMk39
import Derived.Test.YtnllfdcaloilnaaGreatMk40
namespace Go.Proofs.YtnllfdcaloilnaaGreat.meanKnown
open Go.ChangeShapes Go.WideShapes Go.ChangeAt Go.RowKit
set_option linter.unusedVariables false

section
open Go.Ev
set_option linter.unusedSimpArgs false
set_option maxRecDepth 100000 in
def g205 : List (MemF × Bm) := [(⟨16, [.ptr 0 0], [h277, h314, h56, .cells [] 21, h315, h316, h317, .cells [.int .i32 0] 21, h318, h319], .int .i64 0, [h320, h314, h142, .cells [] 21, h315, h316, h317, .cells [.int .i32 0] 21, h318, h319]⟩, [(0, 0), (1, 0), (2, 0), (3, 0), (4, 0), (5, 0), (6, 0), (7, 0), (8, 0), (9, 0)])]
theorem k205 : AllT (fstsF g205) := batch ([]) (AllF.nil) g205 (by kernel_rfl)
set_option maxRecDepth 100000 in
def g206 : List (MemF × Bm) := [(⟨4, [.str s9, .nilslice, .int .i64 9], [], .ptr 0 0, [h320, h314, h142, .cells [] 21, h315, h316, h317, .cells [.int .i32 0] 21, h318, h319]⟩, [(126, 0), (119, 0), (124, 0), (125, 0), (131, 0), (116, 0), (115, 0), (129, 0), (112, 0), (90, 0)])]
theorem k206 : AllT (fstsF g206) := batch (fstsF g25 ++ (fstsF g203 ++ (fstsF g204 ++ (fstsF g205 ++ ([]))))) (AllF.append k25 (AllF.append k203 (AllF.append k204 (AllF.append k205 (AllF.nil))))) g206 (by kernel_rfl)
set_option maxRecDepth 100000 in
def g207 : List (MemF × Bm) := [(⟨10, [], [], .bool true, []⟩, [])]
theorem k207 : AllT (fstsF g207) := batch (fstsF g25 ++ (fstsF g171 ++ (fstsF g173 ++ (fstsF g174 ++ (fstsF g175 ++ (fstsF g176 ++ (fstsF g177 ++ (fstsF g178 ++ (fstsF g179 ++ (fstsF g180 ++ (fstsF g201 ++ (fstsF g206 ++ ([]))))))))))))) (AllF.append k25 (AllF.append k171 (AllF.append k173 (AllF.append k174 (AllF.append k175 (AllF.append k176 (AllF.append k177 (AllF.append k178 (AllF.append k179 (AllF.append k180 (AllF.append k201 (AllF.append k206 (AllF.nil))))))))))))) g207 (by kernel_rfl)
end
end Go.Proofs.YtnllfdcaloilnaaGreat.meanKnown
