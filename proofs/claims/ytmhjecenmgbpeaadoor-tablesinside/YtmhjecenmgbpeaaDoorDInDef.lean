/-
  TablesInside: definitions.
-/
import Derived.Test.YtmhjecenmgbpeaaDoorDMemC
import Derived.Test.YtmhjecenmgbpeaaDoorDTab0
import Derived.Test.YtmhjecenmgbpeaaDoorEvBits
set_option linter.unusedSimpArgs false
set_option linter.unusedVariables false
namespace Go.Proofs.YtmhjecenmgbpeaaDoor
open Go.Ev
theorem tl10_run : (callF EM0 20000 50 [] ⟨[(gnm 1, tabAO tab)], 0, gnm 0, [], [], [], true⟩).map (fun x => (x.1, x.2.ob)) = some (.bool true, []) := by kernel_rfl
theorem tl10_pure : TabPure Tryd.prog 50 [] (.bool true) [] 1 tab := tabPure_true (.inl rfl) (tabPure_closed EM0_ok rfl tl10_run)
noncomputable def EI : Env := envG Tryd.prog [(50, tabSP 1 tab sNone), (15, rawSP (dropK mstSpec)), (27, rawSP (dropK mldSpec)), (84, rawSP (dropK mcsSpec))]
theorem EI_ok : EnvOk EI := envG_ok mgood ⟨tabSP_ok rfl (sNone_ok tl10_pure), rawSP_ok (dropK_ok mstSpec_ok mst_obs), rawSP_ok (dropK_ok mldSpec_ok mld_obs), rawSP_ok (dropK_ok mcsSpec_ok mcs_obs), trivial⟩
end Go.Proofs.YtmhjecenmgbpeaaDoor
