/-
  OrphansVoid: its runs, of 12 to 13 entries.
-/
import Derived.Test.YtmndhjodbnojdaaDoorJVfDef
import Derived.KernelRfl
set_option linter.unusedSimpArgs false
set_option linter.unusedVariables false
namespace Go.Proofs.YtmndhjodbnojdaaDoor
open Go.Ev
set_option maxRecDepth 100000
theorem ov_r12 (m : Nat) (f g : Nat → Nat → AV) : ovRun m f 12 g (ovHints 12) = some (.bool true, ovObs m f 12 g, true) := by kernel_rfl
theorem ov_r13 (m : Nat) (f g : Nat → Nat → AV) : ovRun m f 13 g (ovHints 13) = some (.bool true, ovObs m f 13 g, true) := by kernel_rfl
end Go.Proofs.YtmndhjodbnojdaaDoor
