/-
  TablesVoid: definitions.
-/
import Derived.Test.YtofopjkjmhepeaaDoorTTab10
import Derived.Test.YtofopjkjmhepeaaDoorTBeg
set_option linter.unusedSimpArgs false
set_option linter.unusedVariables false
namespace Go.Proofs.YtofopjkjmhepeaaDoor
open Go.Ev
noncomputable def Etv : Env := envG Tryd.prog [(10, tabSP 0 tab sNone), (20, locSP bgSpec)]
theorem Etv_ok : EnvOk Etv := envG_ok mgood ⟨tabSP_ok rfl (sNone_ok tl10_pure), locSP_ok bgSpec_ok, trivial⟩
noncomputable def tvRun (m : Nat) (f : Nat → Nat → AV) (s : Int) (h : List Hint) : Option (AV × List Prop × Bool) := (callF Etv 3000 5 [.ss 4 1 0 m none, .sym .i64 s] ⟨(tabsH [(0, tab)] ++ [(1, .arr 4 wSh true m f)]), 2, gnm 0, h, [], [], false⟩).map (fun x => (x.1, x.2.ob, noneIn (tabsH [(0, tab)] ++ [(1, .arr 4 wSh true m f)]) x.2.wr))
end Go.Proofs.YtofopjkjmhepeaaDoor
