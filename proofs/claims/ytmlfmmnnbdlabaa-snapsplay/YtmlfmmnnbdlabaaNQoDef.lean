/-
  SnapsPlay: definitions.
-/
import Derived.Test.YtmlfmmnnbdlabaaNPyLaw
import Derived.Test.YtmlfmmnnbdlabaaNQn
import Derived.Test.YtmlfmmnnbdlabaaNQa
import Derived.Test.YtmlfmmnnbdlabaaNL14
set_option linter.unusedSimpArgs false
set_option linter.unusedVariables false
namespace Go.Proofs.Ytmlfmmnnbdlabaa
open Go.Ev
noncomputable def Esy : Env := envG Try.prog ((29, rawSP l14Spec) :: (36, locSP bgSpec) :: (38, locSP pstSpec) :: (41, locSP smeSpec) :: (39, locSP smsSpec) :: (42, locSP ssnSpec) :: memSP)
theorem Esy_ok : EnvOk Esy := envG_ok mgood ⟨rawSP_ok l14Spec_ok, locSP_ok bgSpec_ok, locSP_ok pstSpec_ok, locSP_ok smeSpec_ok, locSP_ok smsSpec_ok, locSP_ok ssnSpec_ok, memSP_ok⟩
noncomputable def pyRun (n : Nat) (g : Nat → Nat → AV) (m : Nat) (f : Nat → Nat → AV) (hh : List Hint) : Option (AV × List Prop × Bool) := (callF Esy 6000 7 [.ss 4 1 0 n none, .ss 4 2 0 m none] ⟨[(1, .arr 4 wSh true n g), (2, .arr 4 wSh true m f)], 3, gnm 0, hh, [], [], false⟩).map (fun x => (x.1, x.2.ob, noneIn [(1, .arr 4 wSh true n g), (2, .arr 4 wSh true m f)] x.2.wr))
end Go.Proofs.Ytmlfmmnnbdlabaa
