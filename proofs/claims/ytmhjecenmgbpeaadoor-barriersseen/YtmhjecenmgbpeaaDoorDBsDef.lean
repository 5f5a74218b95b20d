/-
  BarriersSeen: definitions.
-/
import Derived.Test.YtmhjecenmgbpeaaDoorDMemC
import Derived.Test.YtmhjecenmgbpeaaDoorEvTab
import Derived.Test.YtmhjecenmgbpeaaDoorEvBits
set_option linter.unusedSimpArgs false
set_option linter.unusedVariables false
namespace Go.Proofs.YtmhjecenmgbpeaaDoor
open Go.Ev
def btab : List Value := [.int .i64 0, .int .i64 1, .int .i64 2, .int .i64 6]
theorem bl_run : (callF EMC 20000 19 [] ⟨[(gnm 0, tabAO btab)], 0, gnm 0, [], [], [], true⟩).map (fun x => (x.1, x.2.ob)) = some (.bool true, []) := by kernel_rfl
theorem bl_pure : TabPure Tryd.prog 19 [] (.bool true) [] 0 btab := tabPure_true (.inl rfl) (tabPure_closed EMC_ok rfl bl_run)
noncomputable def EBS : Env := envG Tryd.prog [(19, tabSP 0 btab sNone), (15, rawSP (dropK mstSpec)), (27, rawSP (dropK mldSpec)), (84, rawSP (dropK mcsSpec))]
theorem EBS_ok : EnvOk EBS := envG_ok mgood ⟨tabSP_ok rfl (sNone_ok bl_pure), rawSP_ok (dropK_ok mstSpec_ok mst_obs), rawSP_ok (dropK_ok mldSpec_ok mld_obs), rawSP_ok (dropK_ok mcsSpec_ok mcs_obs), trivial⟩
end Go.Proofs.YtmhjecenmgbpeaaDoor
