/-
  OrphansVoid: its runs, of 20 to 20 entries.
-/
import Derived.Test.YtmndhjodbnojdaaDoorJVfDef
import Derived.KernelRfl
set_option linter.unusedSimpArgs false
set_option linter.unusedVariables false
namespace Go.Proofs.YtmndhjodbnojdaaDoor
open Go.Ev
set_option maxRecDepth 100000
theorem ov_r20 (m : Nat) (f g : Nat → Nat → AV) : ovRun m f 20 g (ovHints 20) = some (.bool true, ovObs m f 20 g, true) := by kernel_rfl
end Go.Proofs.YtmndhjodbnojdaaDoor
