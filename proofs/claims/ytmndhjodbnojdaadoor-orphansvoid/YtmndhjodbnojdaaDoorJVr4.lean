/-
  OrphansVoid: its runs, of 14 to 15 entries.
-/
import Derived.Test.YtmndhjodbnojdaaDoorJVfDef
import Derived.KernelRfl
set_option linter.unusedSimpArgs false
set_option linter.unusedVariables false
namespace Go.Proofs.YtmndhjodbnojdaaDoor
open Go.Ev
set_option maxRecDepth 100000
theorem ov_r14 (m : Nat) (f g : Nat → Nat → AV) : ovRun m f 14 g (ovHints 14) = some (.bool true, ovObs m f 14 g, true) := by kernel_rfl
theorem ov_r15 (m : Nat) (f g : Nat → Nat → AV) : ovRun m f 15 g (ovHints 15) = some (.bool true, ovObs m f 15 g, true) := by kernel_rfl
end Go.Proofs.YtmndhjodbnojdaaDoor
