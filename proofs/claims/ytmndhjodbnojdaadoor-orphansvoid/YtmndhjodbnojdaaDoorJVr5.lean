/-
  OrphansVoid: its runs, of 16 to 17 entries.
-/
import Derived.Test.YtmndhjodbnojdaaDoorJVfDef
import Derived.KernelRfl
set_option linter.unusedSimpArgs false
set_option linter.unusedVariables false
namespace Go.Proofs.YtmndhjodbnojdaaDoor
open Go.Ev
set_option maxRecDepth 100000
theorem ov_r16 (m : Nat) (f g : Nat → Nat → AV) : ovRun m f 16 g (ovHints 16) = some (.bool true, ovObs m f 16 g, true) := by kernel_rfl
theorem ov_r17 (m : Nat) (f g : Nat → Nat → AV) : ovRun m f 17 g (ovHints 17) = some (.bool true, ovObs m f 17 g, true) := by kernel_rfl
end Go.Proofs.YtmndhjodbnojdaaDoor
