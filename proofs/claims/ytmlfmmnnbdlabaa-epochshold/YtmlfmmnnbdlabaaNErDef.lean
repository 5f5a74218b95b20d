/-
  EpochsHold: definitions.
-/
import Derived.Test.YtmlfmmnnbdlabaaNEq
import Derived.Test.YtmlfmmnnbdlabaaNL15
import Derived.Test.YtmlfmmnnbdlabaaEvLaw
set_option linter.unusedSimpArgs false
set_option linter.unusedVariables false
namespace Go.Proofs.Ytmlfmmnnbdlabaa
open Go.Ev
noncomputable def Eer : Env := envG Try.prog ((23, rawSP l15Spec) :: memSpecs)
theorem Eer_ok : EnvOk Eer := envG_ok mgood ⟨rawSP_ok l15Spec_ok, memSpecs_ok⟩
noncomputable def erRun (e0 : Int) (m : Nat) (f : Nat → Nat → AV) (hh : List Hint) : Option (AV × List Prop × Bool) := (callF Eer 5000 5 [.sym .u64 e0, .ss 1 1 0 m none] ⟨[(1, .arr 1 [.int .u8] true m f)], 2, gnm 0, hh, [], [], false⟩).map (fun x => (x.1, x.2.ob, noneIn [(1, .arr 1 [.int .u8] true m f)] x.2.wr))
end Go.Proofs.Ytmlfmmnnbdlabaa
