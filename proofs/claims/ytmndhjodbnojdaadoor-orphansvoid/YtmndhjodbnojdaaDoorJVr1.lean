/-
  OrphansVoid: its runs, of 7 to 9 entries.
-/
import Derived.Test.YtmndhjodbnojdaaDoorJVfDef
import Derived.KernelRfl
set_option linter.unusedSimpArgs false
set_option linter.unusedVariables false
namespace Go.Proofs.YtmndhjodbnojdaaDoor
open Go.Ev
set_option maxRecDepth 100000
theorem ov_r7 (m : Nat) (f g : Nat → Nat → AV) : ovRun m f 7 g (ovHints 7) = some (.bool true, ovObs m f 7 g, true) := by kernel_rfl
theorem ov_r8 (m : Nat) (f g : Nat → Nat → AV) : ovRun m f 8 g (ovHints 8) = some (.bool true, ovObs m f 8 g, true) := by kernel_rfl
theorem ov_r9 (m : Nat) (f g : Nat → Nat → AV) : ovRun m f 9 g (ovHints 9) = some (.bool true, ovObs m f 9 g, true) := by kernel_rfl
end Go.Proofs.YtmndhjodbnojdaaDoor
