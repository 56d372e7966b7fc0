/- Calls over literal memory of ploverlaw24.VmKnown, reckoned in the kernel: part 4. -/
import Derived.Test.YtipejmklkmccnaaGreatRows
import Derived.WalkKit
import Derived.ProofKit
import Derived.OpenShut
import Derived.Below
import Derived.ChangeSame
import Derived.Laws.Externs
import Derived.Laws.LoneSync
import Derived.Test.YtipejmklkmccnaaGreatVka
import Derived.Test.YtipejmklkmccnaaGreatVk3
namespace Go.Proofs.YtipejmklkmccnaaGreat.vmKnown
open Go.ChangeShapes Go.WideShapes Go.ChangeAt Go.RowKit
set_option linter.unusedVariables false

section
open Go.Ev
set_option linter.unusedSimpArgs false
set_option maxRecDepth 100000 in
def g37 : List (MemF × Bm) := [(⟨19, [.agg [.slice 0 0 1 1 .none, .nilslice, .slice 1 0 1 1 .none, .nilslice, .int .i64 0, .int .i64 0, .int .i64 0], .int .i64 5, .int .i64 0], [h35, h1], .bool true, [h35, h1]⟩, [(0, 0), (1, 0)])]
theorem k37 : AllT (fstsF g37) := batch ([]) (AllF.nil) g37 (by kernel_rfl)
set_option maxRecDepth 100000 in
def g38 : List (MemF × Bm) := [(⟨19, [.agg [.slice 0 0 1 1 .none, .nilslice, .slice 1 0 1 1 .none, .nilslice, .int .i64 0, .int .i64 0, .int .i64 0], .int .i64 5, .int .i64 0], [h36, h1], .bool true, [h36, h1]⟩, [(0, 0), (1, 0)])]
theorem k38 : AllT (fstsF g38) := batch ([]) (AllF.nil) g38 (by kernel_rfl)
set_option maxRecDepth 100000 in
def g39 : List (MemF × Bm) := [(⟨19, [.agg [.slice 0 0 1 1 .none, .nilslice, .slice 1 0 1 1 .none, .nilslice, .int .i64 0, .int .i64 0, .int .i64 0], .int .i64 5, .int .i64 0], [h37, h1], .bool true, [h37, h1]⟩, [(0, 0), (1, 0)])]
theorem k39 : AllT (fstsF g39) := batch ([]) (AllF.nil) g39 (by kernel_rfl)
set_option maxRecDepth 100000 in
def g40 : List (MemF × Bm) := [(⟨19, [.agg [.slice 0 0 1 1 .none, .nilslice, .slice 1 0 1 1 .none, .nilslice, .int .i64 0, .int .i64 0, .int .i64 0], .int .i64 5, .int .i64 0], [h38, h1], .bool true, [h38, h1]⟩, [(0, 0), (1, 0)])]
theorem k40 : AllT (fstsF g40) := batch ([]) (AllF.nil) g40 (by kernel_rfl)
set_option maxRecDepth 100000 in
def g41 : List (MemF × Bm) := [(⟨19, [.agg [.slice 0 0 1 1 .none, .nilslice, .slice 1 0 1 1 .none, .nilslice, .int .i64 0, .int .i64 0, .int .i64 0], .int .i64 5, .int .i64 0], [h39, h1], .bool true, [h39, h1]⟩, [(0, 0), (1, 0)])]
theorem k41 : AllT (fstsF g41) := batch ([]) (AllF.nil) g41 (by kernel_rfl)
set_option maxRecDepth 100000 in
def g42 : List (MemF × Bm) := [(⟨19, [.agg [.slice 0 0 1 1 .none, .nilslice, .slice 1 0 1 1 .none, .nilslice, .int .i64 0, .int .i64 3, .int .i64 0], .int .i64 5, .int .i64 0], [h40, h1], .bool true, [h40, h1]⟩, [(0, 0), (1, 0)])]
theorem k42 : AllT (fstsF g42) := batch ([]) (AllF.nil) g42 (by kernel_rfl)
set_option maxRecDepth 100000 in
def g43 : List (MemF × Bm) := [(⟨19, [.agg [.slice 0 0 1 1 .none, .nilslice, .slice 1 0 1 1 .none, .nilslice, .int .i64 0, .int .i64 0, .int .i64 3], .int .i64 5, .int .i64 0], [h41, h1], .bool true, [h41, h1]⟩, [(0, 0), (1, 0)])]
theorem k43 : AllT (fstsF g43) := batch ([]) (AllF.nil) g43 (by kernel_rfl)
set_option maxRecDepth 100000 in
def g44 : List (MemF × Bm) := [(⟨19, [.agg [.slice 0 0 2 2 .none, .nilslice, .slice 1 0 1 1 .none, .nilslice, .int .i64 0, .int .i64 0, .int .i64 0], .int .i64 1, .int .i64 1], [h42, h1], .bool true, [h42, h1]⟩, [(0, 0), (1, 0)])]
theorem k44 : AllT (fstsF g44) := batch ([]) (AllF.nil) g44 (by kernel_rfl)
set_option maxRecDepth 100000 in
def g45 : List (MemF × Bm) := [(⟨7, [], [], .bool true, []⟩, [])]
theorem k45 : AllT (fstsF g45) := batch (fstsF g24 ++ (fstsF g26 ++ (fstsF g27 ++ (fstsF g28 ++ (fstsF g29 ++ (fstsF g30 ++ (fstsF g31 ++ (fstsF g32 ++ (fstsF g33 ++ (fstsF g34 ++ (fstsF g35 ++ (fstsF g36 ++ (fstsF g37 ++ (fstsF g38 ++ (fstsF g39 ++ (fstsF g40 ++ (fstsF g41 ++ (fstsF g42 ++ (fstsF g43 ++ (fstsF g44 ++ ([]))))))))))))))))))))) (AllF.append k24 (AllF.append k26 (AllF.append k27 (AllF.append k28 (AllF.append k29 (AllF.append k30 (AllF.append k31 (AllF.append k32 (AllF.append k33 (AllF.append k34 (AllF.append k35 (AllF.append k36 (AllF.append k37 (AllF.append k38 (AllF.append k39 (AllF.append k40 (AllF.append k41 (AllF.append k42 (AllF.append k43 (AllF.append k44 (AllF.nil))))))))))))))))))))) g45 (by kernel_rfl)
end
end Go.Proofs.YtipejmklkmccnaaGreat.vmKnown
