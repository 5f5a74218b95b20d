/-
  The examples of chapter 8.
-/
import Derived.Test.YtncekiahhebmjaaDoorFTab
import Derived.Test.YtncekiahhebmjaaDoorEvTab
set_option linter.unusedSimpArgs false
set_option linter.unusedVariables false
namespace Go.Proofs.YtncekiahhebmjaaDoor
open Go.Ev
theorem fl8_run : (callF EM0 20000 28 [] ⟨[(gnm 0, tabAO tab)], 0, gnm 0, [], [], [], true⟩).map (fun x => (x.1, x.2.ob)) = some (.symb true, []) := by kernel_rfl
theorem fl8_pure : TabPure Tryd.prog 28 [] (.bool true) [] 0 tab := tabPure_true (.inr rfl) (tabPure_closed EM0_ok rfl fl8_run)
end Go.Proofs.YtncekiahhebmjaaDoor
