/-
  FreesVoid: definitions.
-/
import Derived.Test.YtncekiahhebmjaaDoorFTab
set_option linter.unusedSimpArgs false
set_option linter.unusedVariables false
namespace Go.Proofs.YtncekiahhebmjaaDoor
open Go.Ev
noncomputable def EV : Env := envG Tryd.prog [(10, rawSP flSpec), (11, locSP bgSpec)]
theorem EV_ok : EnvOk EV := envG_ok mgood ⟨rawSP_ok flSpec_ok, locSP_ok bgSpec_ok, trivial⟩
noncomputable def fvRun (m : Nat) (f : Nat → Nat → AV) (s : Int) (h : List Hint) : Option (AV × List Prop × Bool) := (callF EV 3000 3 [.ss 4 1 0 m none, .sym .i64 s] ⟨tabsH [(0, tab)] ++ [(1, .arr 4 wSh true m f)], 2, gnm 0, h, [], [], false⟩).map (fun x => (x.1, x.2.ob, noneIn (tabsH [(0, tab)] ++ [(1, .arr 4 wSh true m f)]) x.2.wr))
end Go.Proofs.YtncekiahhebmjaaDoor
