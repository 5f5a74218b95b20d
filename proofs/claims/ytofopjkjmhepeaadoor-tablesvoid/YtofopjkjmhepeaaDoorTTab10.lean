/-
  The examples of chapter 10.
-/
import Derived.Test.YtofopjkjmhepeaaDoorTTab
set_option linter.unusedSimpArgs false
set_option linter.unusedVariables false
namespace Go.Proofs.YtofopjkjmhepeaaDoor
open Go.Ev
theorem tl10_run : (callF EM0 20000 10 [] ⟨[(gnm 0, tabAO tab)], 0, gnm 0, [], [], [], true⟩).map (fun x => (x.1, x.2.ob)) = some (.bool true, []) := by kernel_rfl
theorem tl10_pure : TabPure Tryd.prog 10 [] (.bool true) [] 0 tab := tabPure_true (.inl rfl) (tabPure_closed EM0_ok rfl tl10_run)
end Go.Proofs.YtofopjkjmhepeaaDoor
