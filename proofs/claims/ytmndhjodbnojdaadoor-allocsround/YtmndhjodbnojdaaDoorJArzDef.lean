/-
  AllocsRound: definitions.
-/
import Derived.Test.YtmndhjodbnojdaaDoorJArl
import Derived.Test.YtmndhjodbnojdaaDoorJL8
set_option linter.unusedSimpArgs false
set_option linter.unusedVariables false
namespace Go.Proofs.YtmndhjodbnojdaaDoor
open Go.Ev
noncomputable def EAz : Env := envG Tryd.prog ([(56, tabSP 0 tab sNone), (49, locSP bgnSpec), (50, madeSP), (13, locSP pshSpec), (108, tabSP 0 tab ahrS), (94, tabSP 0 tab hdrS)] ++ memSP)
theorem EAz_ok : EnvOk EAz := envG_ok mgood ⟨tabSP_ok rfl (sNone_ok l8_pure), locSP_ok bgnSpec_ok, madeSP_ok, locSP_ok pshSpec_ok, tabSP_ok rfl ahrS_ok, tabSP_ok rfl hdrS_ok, memSP_ok⟩
noncomputable def arRun (g : Int) (hh : List Hint) : Option (AV × List Prop × Bool) := (callF EAz 6000 9 [.sym .u8 g] ⟨tabsH [(0, tab)], 1, gnm 0, hh, [], [], false⟩).map (fun x => (x.1, x.2.ob, noneIn (tabsH [(0, tab)]) x.2.wr))
end Go.Proofs.YtmndhjodbnojdaaDoor
