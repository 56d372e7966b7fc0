/-
 Contracts of the world's functions: over lists of inputs.
 No conditions.
-/
import Derived.Test.YtapfkgenachpgaaWf
import Derived.WalkKit
namespace Go.Proofs.Ytapfkgenachpgaa.wc
open Go.Ev Go.RowKit Go.Wpl Go.Wt
set_option linter.unusedVariables false
set_option linter.unusedSimpArgs false
end Go.Proofs.Ytapfkgenachpgaa.wc
