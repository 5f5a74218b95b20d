/-
  BlocksVoid: definitions.
-/
import Derived.Test.YtofopjkjmhepeaaDoorTTab11
import Derived.Test.YtofopjkjmhepeaaDoorTBeg
set_option linter.unusedSimpArgs false
set_option linter.unusedVariables false
namespace Go.Proofs.YtofopjkjmhepeaaDoor
open Go.Ev
noncomputable def Ebv : Env := envG Tryd.prog [(33, tabSP 0 tab sNone), (20, locSP bgSpec)]
theorem Ebv_ok : EnvOk Ebv := envG_ok mgood ⟨tabSP_ok rfl (sNone_ok tl11_pure), locSP_ok bgSpec_ok, trivial⟩
noncomputable def bvRun (m : Nat) (f : Nat → Nat → AV)  (h : List Hint) : Option (AV × List Prop × Bool) := (callF Ebv 3000 7 [.ss 4 1 0 m none] ⟨(tabsH [(0, tab)] ++ [(1, .arr 4 wSh true m f)]), 2, gnm 0, h, [], [], false⟩).map (fun x => (x.1, x.2.ob, noneIn (tabsH [(0, tab)] ++ [(1, .arr 4 wSh true m f)]) x.2.wr))
end Go.Proofs.YtofopjkjmhepeaaDoor
