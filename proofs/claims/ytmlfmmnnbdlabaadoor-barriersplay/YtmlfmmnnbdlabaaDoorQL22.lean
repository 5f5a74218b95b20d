/-
  The example of chapter 22.
-/
import Derived.Test.YtmlfmmnnbdlabaaDoorQMemC
import Derived.Test.YtmlfmmnnbdlabaaDoorQTab0
import Derived.Test.YtmlfmmnnbdlabaaDoorEvDoor
import Derived.Test.YtmlfmmnnbdlabaaDoorEvBits
set_option linter.unusedSimpArgs false
set_option linter.unusedVariables false
namespace Go.Proofs.YtmlfmmnnbdlabaaDoor
open Go.Ev
theorem l22_run : (callF EMC 20000 5 [] ⟨[(gnm 0, tabAO tab)], 0, gnm 0, [], [], [], true⟩).map (fun x => (x.1, x.2.ob)) = some (.bool true, []) := by kernel_rfl
theorem l22_pure : TabPure Tryd.prog 5 [] (.bool true) [] 0 tab := tabPure_true (.inl rfl) (tabPure_closed EMC_ok rfl l22_run)
end Go.Proofs.YtmlfmmnnbdlabaaDoor
