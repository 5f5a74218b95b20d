/-
  ErasBump: definitions.
-/
import Derived.Test.YtmlfmmnnbdlabaaNEa
import Derived.Test.YtmlfmmnnbdlabaaNL17
import Derived.Test.YtmlfmmnnbdlabaaEvLaw
set_option linter.unusedSimpArgs false
set_option linter.unusedVariables false
namespace Go.Proofs.Ytmlfmmnnbdlabaa
open Go.Ev
noncomputable def Eec : Env := envG Try.prog ((46, rawSP l17Spec) :: (57, locSP bstSpec) :: memSpecs)
theorem Eec_ok : EnvOk Eec := envG_ok mgood ⟨rawSP_ok l17Spec_ok, locSP_ok bstSpec_ok, memSpecs_ok⟩
noncomputable def ecRun (era : Int) (n : Nat) (g : Nat → Nat → AV) (hh : List Hint) : Option (AV × List Prop × Bool) := (callF Eec 5000 10 [.sym .u64 era, .ss 1 1 0 n none] ⟨[(1, .arr 1 [.int .u8] true n g)], 2, gnm 0, hh, [], [], false⟩).map (fun x => (x.1, x.2.ob, noneIn [(1, .arr 1 [.int .u8] true n g)] x.2.wr))
end Go.Proofs.Ytmlfmmnnbdlabaa
