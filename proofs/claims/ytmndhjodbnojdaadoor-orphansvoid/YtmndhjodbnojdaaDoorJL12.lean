/-
  The examples of law12.lives.
-/
import Derived.Test.YtmndhjodbnojdaaDoorJMemC
import Derived.Test.YtmndhjodbnojdaaDoorJWd
set_option linter.unusedSimpArgs false
set_option linter.unusedVariables false
namespace Go.Proofs.YtmndhjodbnojdaaDoor
open Go.Ev
noncomputable def EMW : Env := envG Tryd.prog ((25, rawSP (dropK mstSpec)) :: (18, rawSP (dropK mldSpec)) :: (160, rawSP (dropK mcsSpec)) :: wdC)
theorem EMW_ok : EnvOk EMW := envG_ok mgood ⟨rawSP_ok (dropK_ok mstSpec_ok mst_obs), rawSP_ok (dropK_ok mldSpec_ok mld_obs), rawSP_ok (dropK_ok mcsSpec_ok mcs_obs), wdC_ok⟩
theorem l12_run : (callF EMW 20000 31 [] ⟨[(gnm 0, tabAO tab)], 0, gnm 0, [], [], [], true⟩).map (fun x => (x.1, x.2.ob)) = some (.bool true, []) := by kernel_rfl
theorem l12_pure : TabPure Tryd.prog 31 [] (.bool true) [] 0 tab := tabPure_true (.inl rfl) (tabPure_closed EMW_ok rfl l12_run)
end Go.Proofs.YtmndhjodbnojdaaDoor
