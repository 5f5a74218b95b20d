/-
  OrphansVoid: its runs, of 10 to 11 entries.
-/
import Derived.Test.YtmndhjodbnojdaaDoorJVfDef
import Derived.KernelRfl
set_option linter.unusedSimpArgs false
set_option linter.unusedVariables false
namespace Go.Proofs.YtmndhjodbnojdaaDoor
open Go.Ev
set_option maxRecDepth 100000
theorem ov_r10 (m : Nat) (f g : Nat → Nat → AV) : ovRun m f 10 g (ovHints 10) = some (.bool true, ovObs m f 10 g, true) := by kernel_rfl
theorem ov_r11 (m : Nat) (f g : Nat → Nat → AV) : ovRun m f 11 g (ovHints 11) = some (.bool true, ovObs m f 11 g, true) := by kernel_rfl
end Go.Proofs.YtmndhjodbnojdaaDoor
