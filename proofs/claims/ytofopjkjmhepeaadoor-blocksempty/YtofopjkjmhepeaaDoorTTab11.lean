/-
  The examples of chapter 11.
-/
import Derived.Test.YtofopjkjmhepeaaDoorTTab
set_option linter.unusedSimpArgs false
set_option linter.unusedVariables false
namespace Go.Proofs.YtofopjkjmhepeaaDoor
open Go.Ev
theorem tl11_run : (callF EM0 20000 33 [] ⟨[(gnm 0, tabAO tab)], 0, gnm 0, [], [], [], true⟩).map (fun x => (x.1, x.2.ob)) = some (.symb true, []) := by kernel_rfl
theorem tl11_pure : TabPure Tryd.prog 33 [] (.bool true) [] 0 tab := tabPure_true (.inr rfl) (tabPure_closed EM0_ok rfl tl11_run)
end Go.Proofs.YtofopjkjmhepeaaDoor
