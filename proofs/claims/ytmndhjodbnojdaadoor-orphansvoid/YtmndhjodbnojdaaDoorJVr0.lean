/-
  OrphansVoid: its runs, of 0 to 6 entries.
-/
import Derived.Test.YtmndhjodbnojdaaDoorJVfDef
import Derived.KernelRfl
set_option linter.unusedSimpArgs false
set_option linter.unusedVariables false
namespace Go.Proofs.YtmndhjodbnojdaaDoor
open Go.Ev
set_option maxRecDepth 100000
theorem ov_r0 (m : Nat) (f g : Nat → Nat → AV) : ovRun m f 0 g (ovHints 0) = some (.bool true, ovObs m f 0 g, true) := by kernel_rfl
theorem ov_r1 (m : Nat) (f g : Nat → Nat → AV) : ovRun m f 1 g (ovHints 1) = some (.bool true, ovObs m f 1 g, true) := by kernel_rfl
theorem ov_r2 (m : Nat) (f g : Nat → Nat → AV) : ovRun m f 2 g (ovHints 2) = some (.bool true, ovObs m f 2 g, true) := by kernel_rfl
theorem ov_r3 (m : Nat) (f g : Nat → Nat → AV) : ovRun m f 3 g (ovHints 3) = some (.bool true, ovObs m f 3 g, true) := by kernel_rfl
theorem ov_r4 (m : Nat) (f g : Nat → Nat → AV) : ovRun m f 4 g (ovHints 4) = some (.bool true, ovObs m f 4 g, true) := by kernel_rfl
theorem ov_r5 (m : Nat) (f g : Nat → Nat → AV) : ovRun m f 5 g (ovHints 5) = some (.bool true, ovObs m f 5 g, true) := by kernel_rfl
theorem ov_r6 (m : Nat) (f g : Nat → Nat → AV) : ovRun m f 6 g (ovHints 6) = some (.bool true, ovObs m f 6 g, true) := by kernel_rfl
end Go.Proofs.YtmndhjodbnojdaaDoor
