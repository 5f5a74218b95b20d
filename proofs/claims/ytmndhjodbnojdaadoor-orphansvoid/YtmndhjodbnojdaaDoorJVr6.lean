/-
  OrphansVoid: its runs, of 18 to 19 entries.
-/
import Derived.Test.YtmndhjodbnojdaaDoorJVfDef
import Derived.KernelRfl
set_option linter.unusedSimpArgs false
set_option linter.unusedVariables false
namespace Go.Proofs.YtmndhjodbnojdaaDoor
open Go.Ev
set_option maxRecDepth 100000
theorem ov_r18 (m : Nat) (f g : Nat → Nat → AV) : ovRun m f 18 g (ovHints 18) = some (.bool true, ovObs m f 18 g, true) := by kernel_rfl
theorem ov_r19 (m : Nat) (f g : Nat → Nat → AV) : ovRun m f 19 g (ovHints 19) = some (.bool true, ovObs m f 19 g, true) := by kernel_rfl
end Go.Proofs.YtmndhjodbnojdaaDoor
