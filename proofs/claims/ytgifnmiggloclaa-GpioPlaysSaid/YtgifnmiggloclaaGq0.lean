/-
  A quarter of the ways of GpioPlays.
  No conditions.
-/
import Derived.Test.YtgifnmiggloclaaGp
namespace Go.Proofs.Ytgifnmiggloclaa.gp
open Go.RowKit Go.Ev
set_option linter.unusedVariables false
set_option linter.unusedSimpArgs false

theorem gp_ttttt : okSw (runOf Try.prog gpBX ([loopOf (bodyOf Try.f6)]) gpS1 139) (gpW gpDs4) [.tru 42 true, .tru 39 true, .tru 35 true, .tru 32 true, .tru 28 true, .tru 25 true, .tru 21 true, .tru 18 true, .tru 12 false, .tru 10 true, .tru 9 true, .tru 8 true] = true := by kernel_rfl
theorem gp_ttttf : okSw (runOf Try.prog gpBX ([loopOf (bodyOf Try.f6)]) gpS1 139) (gpW gpDs4) [.tru 42 false, .tru 39 false, .tru 35 true, .tru 32 true, .tru 28 true, .tru 25 true, .tru 21 true, .tru 18 true, .tru 12 false, .tru 10 true, .tru 9 true, .tru 8 true] = true := by kernel_rfl
theorem gp_tttft : okSw (runOf Try.prog gpBX ([loopOf (bodyOf Try.f6)]) gpS1 139) (gpW gpDs4) [.tru 42 true, .tru 39 true, .tru 35 false, .tru 32 false, .tru 28 true, .tru 25 true, .tru 21 true, .tru 18 true, .tru 12 false, .tru 10 true, .tru 9 true, .tru 8 true] = true := by kernel_rfl
theorem gp_tttff : okSw (runOf Try.prog gpBX ([loopOf (bodyOf Try.f6)]) gpS1 139) (gpW gpDs4) [.tru 42 false, .tru 39 false, .tru 35 false, .tru 32 false, .tru 28 true, .tru 25 true, .tru 21 true, .tru 18 true, .tru 12 false, .tru 10 true, .tru 9 true, .tru 8 true] = true := by kernel_rfl
end Go.Proofs.Ytgifnmiggloclaa.gp
