/- Calls over literal memory of ploverlaw17.MeanKnown, reckoned in the kernel: part 42. -/
import Derived.Test.YtnllfdcaloilnaaGreatRows
import Derived.WalkKit
import Derived.ProofKit
import Derived.OpenShut
import Derived.Below
import Derived.ChangeSame
import Derived.Laws.Externs
import Derived.Laws.LoneSync
import Derived.Test.YtnllfdcaloilnaaGreatMka
import Derived.Test.YtnllfdcaloilnaaGreatMk5
import Derived.Test.YtnllfdcaloilnaaGreatMk7
import Derived.Test.YtnllfdcaloilnaaGreatMk8
import Derived.Test.YtnllfdcaloilnaaGreatMk9
import Derived.Test.YtnllfdcaloilnaaGreatMk14
import Derived.Test.YtnllfdcaloilnaaGreatMk17
import Derived.Test.YtnllfdcaloilnaaGreatMk20
import Derived.Test.YtnllfdcaloilnaaGreatMk25
import Derived.Test.YtnllfdcaloilnaaGreatMk28
import Derived.Test.YtnllfdcaloilnaaGreatMk32
import Derived.Test.YtnllfdcaloilnaaGreatMk33
import Derived.Test.YtnllfdcaloilnaaGreatMk41
namespace Go.Proofs.YtnllfdcaloilnaaGreat.meanKnown
open Go.ChangeShapes Go.WideShapes Go.ChangeAt Go.RowKit
set_option linter.unusedVariables false

section
open Go.Ev
set_option linter.unusedSimpArgs false
set_option maxRecDepth 100000 in
def g208 : List (MemF × Bm) := [(⟨3, [], [], .bool true, []⟩, [])]
theorem k208 : AllT (fstsF g208) := batch (fstsF g11 ++ (fstsF g20 ++ (fstsF g21 ++ (fstsF g22 ++ (fstsF g23 ++ (fstsF g24 ++ (fstsF g25 ++ (fstsF g26 ++ (fstsF g27 ++ (fstsF g28 ++ (fstsF g29 ++ (fstsF g30 ++ (fstsF g38 ++ (fstsF g39 ++ (fstsF g48 ++ (fstsF g59 ++ (fstsF g70 ++ (fstsF g82 ++ (fstsF g135 ++ (fstsF g147 ++ (fstsF g168 ++ (fstsF g169 ++ (fstsF g170 ++ (fstsF g207 ++ ([]))))))))))))))))))))))))) (AllF.append k11 (AllF.append k20 (AllF.append k21 (AllF.append k22 (AllF.append k23 (AllF.append k24 (AllF.append k25 (AllF.append k26 (AllF.append k27 (AllF.append k28 (AllF.append k29 (AllF.append k30 (AllF.append k38 (AllF.append k39 (AllF.append k48 (AllF.append k59 (AllF.append k70 (AllF.append k82 (AllF.append k135 (AllF.append k147 (AllF.append k168 (AllF.append k169 (AllF.append k170 (AllF.append k207 (AllF.nil))))))))))))))))))))))))) g208 (by kernel_rfl)
end
end Go.Proofs.YtnllfdcaloilnaaGreat.meanKnown
