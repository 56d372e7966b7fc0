/- Calls over literal memory of ploverlaw17.MeanKnown, reckoned in the kernel: part 5. -/
import Derived.Test.YtnllfdcaloilnaaGreatRows
import Derived.WalkKit
import Derived.ProofKit
import Derived.OpenShut
import Derived.Below
import Derived.ChangeSame
import Derived.Laws.Externs
import Derived.Laws.LoneSync
import Derived.Test.YtnllfdcaloilnaaGreatMka
import Derived.Test.YtnllfdcaloilnaaGreatMk1
import Derived.Test.YtnllfdcaloilnaaGreatMk2
import Derived.Test.YtnllfdcaloilnaaGreatMk3
import Derived.Test.YtnllfdcaloilnaaGreatMk4
namespace Go.Proofs.YtnllfdcaloilnaaGreat.meanKnown
open Go.ChangeShapes Go.WideShapes Go.ChangeAt Go.RowKit
set_option linter.unusedVariables false

section
open Go.Ev
set_option linter.unusedSimpArgs false
set_option maxRecDepth 100000 in
def g11 : List (MemF × Bm) := [(⟨39, [.str s0], [], .tuple [.slice 0 0 65 65 (.some 5), .agg [.int .i64 0, .int .i64 0]], [h0]⟩, [(258, 0)])]
theorem k11 : AllT (fstsF g11) := batch (fstsF g0 ++ (fstsF g1 ++ (fstsF g2 ++ (fstsF g3 ++ (fstsF g4 ++ (fstsF g5 ++ (fstsF g6 ++ (fstsF g7 ++ (fstsF g8 ++ (fstsF g9 ++ (fstsF g10 ++ ([])))))))))))) (AllF.append k0 (AllF.append k1 (AllF.append k2 (AllF.append k3 (AllF.append k4 (AllF.append k5 (AllF.append k6 (AllF.append k7 (AllF.append k8 (AllF.append k9 (AllF.append k10 (AllF.nil)))))))))))) g11 (by kernel_rfl)
set_option maxRecDepth 100000 in
def g12 : List (MemF × Bm) := [(⟨147, [.ptr 0 0], [.cells [.slice 1 0 65 65 (.some 5), .int .i64 10, .int .i64 0, .int .i64 0, .int .i64 0] 167, h0], .agg [.int .i64 6, .int .i64 30, .int .i64 1, .str ⟨#[]⟩, .str ⟨#[]⟩, .str ⟨#[]⟩, .int .i64 0, .int .i64 0, .int .i64 0, .slice 2 0 1 1 .none, .nilslice, .nilslice], [.cells [.slice 1 0 65 65 (.some 5), .int .i64 17, .int .i64 0, .int .i64 0, .int .i64 0] 167, h0, h1]⟩, [(0, 0), (1, 0), (24, 0)])]
theorem k12 : AllT (fstsF g12) := batch ([]) (AllF.nil) g12 (by kernel_rfl)
end
end Go.Proofs.YtnllfdcaloilnaaGreat.meanKnown
