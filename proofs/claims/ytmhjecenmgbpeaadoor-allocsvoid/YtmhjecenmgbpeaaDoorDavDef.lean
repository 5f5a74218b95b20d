/-
  AllocsVoid: definitions.
-/
import Derived.Test.YtmhjecenmgbpeaaDoorDTab8
set_option linter.unusedSimpArgs false
set_option linter.unusedVariables false
namespace Go.Proofs.YtmhjecenmgbpeaaDoor
open Go.Ev
noncomputable def Eav : Env := envG Tryd.prog [(28, tabSP 1 tab sNone), (29, locSP bgSpec)]
theorem Eav_ok : EnvOk Eav := envG_ok mgood ⟨tabSP_ok rfl (sNone_ok fl8_pure), locSP_ok bgSpec_ok, trivial⟩
noncomputable def avRun (m : Nat) (f : Nat → Nat → AV) (s : Int) (h : List Hint) : Option (AV × List Prop × Bool) := (callF Eav 3000 5 [.ss 4 1 0 m none, .sym .i64 s] ⟨(tabsH [(1, tab)] ++ [(1, .arr 4 wSh true m f)]), 2, gnm 0, h, [], [], false⟩).map (fun x => (x.1, x.2.ob, noneIn (tabsH [(1, tab)] ++ [(1, .arr 4 wSh true m f)]) x.2.wr))
end Go.Proofs.YtmhjecenmgbpeaaDoor
