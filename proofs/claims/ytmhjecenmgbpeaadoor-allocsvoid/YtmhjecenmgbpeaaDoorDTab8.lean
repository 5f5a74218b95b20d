/-
  The examples of chapter 8.
-/
import Derived.Test.YtmhjecenmgbpeaaDoorDMemC
import Derived.Test.YtmhjecenmgbpeaaDoorDWd
import Derived.Test.YtmhjecenmgbpeaaDoorDBeg
set_option linter.unusedSimpArgs false
set_option linter.unusedVariables false
namespace Go.Proofs.YtmhjecenmgbpeaaDoor
open Go.Ev
noncomputable def EMW : Env := envG Tryd.prog ((15, rawSP (dropK mstSpec)) :: (27, rawSP (dropK mldSpec)) :: (84, rawSP (dropK mcsSpec)) :: wdC)
theorem EMW_ok : EnvOk EMW := envG_ok mgood ⟨rawSP_ok (dropK_ok mstSpec_ok mst_obs), rawSP_ok (dropK_ok mldSpec_ok mld_obs), rawSP_ok (dropK_ok mcsSpec_ok mcs_obs), wdC_ok⟩
theorem fl8_run : (callF EMW 20000 28 [] ⟨[(gnm 1, tabAO tab)], 0, gnm 0, [], [], [], true⟩).map (fun x => (x.1, x.2.ob)) = some (.symb true, []) := by kernel_rfl
theorem fl8_pure : TabPure Tryd.prog 28 [] (.bool true) [] 1 tab := tabPure_true (.inr rfl) (tabPure_closed EMW_ok rfl fl8_run)
end Go.Proofs.YtmhjecenmgbpeaaDoor
