/-
  BlocksEmpty: definitions.
-/
import Derived.Test.YtofopjkjmhepeaaDoorTMemC
import Derived.Test.YtofopjkjmhepeaaDoorTTab11
import Derived.Test.YtofopjkjmhepeaaDoorEvBits
set_option linter.unusedSimpArgs false
set_option linter.unusedVariables false
namespace Go.Proofs.YtofopjkjmhepeaaDoor
open Go.Ev
noncomputable def EE : Env := envG Tryd.prog [(33, tabSP 0 tab sNone), (12, rawSP (dropK mstSpec)), (15, rawSP (dropK mldSpec)), (86, rawSP (dropK mcsSpec))]
theorem EE_ok : EnvOk EE := envG_ok mgood ⟨tabSP_ok rfl (sNone_ok tl11_pure), rawSP_ok (dropK_ok mstSpec_ok mst_obs), rawSP_ok (dropK_ok mldSpec_ok mld_obs), rawSP_ok (dropK_ok mcsSpec_ok mcs_obs), trivial⟩
noncomputable def emRun (b : Int) (j : Bool) (a : Int) (h : List Hint) : Option (AV × List Prop × Bool) := (callF EE 6000 8 [.sym .u8 b, .symb j, .sym .u8 a] ⟨tabsH [(0, tab)], 1, gnm 0, h, [], [], true⟩).map (fun x => (x.1, x.2.ob, noneIn (tabsH [(0, tab)]) x.2.wr))
end Go.Proofs.YtofopjkjmhepeaaDoor
