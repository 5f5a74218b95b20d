/-
  SnapsAny: definitions.
-/
import Derived.Test.YtadbohcdahddoaaGSn
set_option linter.unusedSimpArgs false
set_option linter.unusedVariables false
namespace Go.Proofs.Ytadbohcdahddoaa
open Go.Ev
noncomputable def ESn : Env := envG Try.prog [(38, rawSP l14Spec), (26, locSP bgSpec), (46, locSP ssnSpec), (47, locSP rsnSpec)]
theorem ESn_ok : EnvOk ESn := envG_ok mgood ⟨rawSP_ok l14Spec_ok, locSP_ok bgSpec_ok, locSP_ok ssnSpec_ok, locSP_ok rsnSpec_ok, trivial⟩
noncomputable def snRun (n : Nat) (g : Nat → Nat → AV) (m : Nat) (f : Nat → Nat → AV) (h : List Hint) : Option (AV × List Prop × Bool) := (callF ESn 3000 8 [.ss 10 1 0 n none, .ss 4 2 0 m none] ⟨[(1, .arr 10 tSh true n g), (2, .arr 4 wSh true m f)], 3, gnm 0, h, [], [], false⟩).map (fun x => (x.1, x.2.ob, noneIn [(1, .arr 10 tSh true n g), (2, .arr 4 wSh true m f)] x.2.wr))
end Go.Proofs.Ytadbohcdahddoaa
