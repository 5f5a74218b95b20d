/-
  MemsPlay: definitions.
-/
import Derived.Test.YtephpkfajobhmaaWMp1
import Derived.Test.YtephpkfajobhmaaEvWords
set_option linter.unusedSimpArgs false
set_option linter.unusedVariables false
namespace Go.Proofs.Ytephpkfajobhmaa
open Go.Ev
noncomputable def EMq : Env := envG Try.prog [(21, rawSP l02Spec), (32, locSP swwSpec)]
theorem EMq_ok : EnvOk EMq := envG_ok mgood ⟨rawSP_ok l02Spec_ok, locSP_ok swwSpec_ok, trivial⟩
noncomputable def mqRun (m : Nat) (f : Nat → Nat → AV) (h : List Hint) : Option (AV × List Prop × Bool) := (callF EMq 5000 5 [.ss 7 1 0 m none] ⟨[(1, .arr 7 aSh true m f)], 2, gnm 0, h, [], [], false⟩).map (fun x => (x.1, x.2.ob, noneIn [(1, .arr 7 aSh true m f)] x.2.wr))
end Go.Proofs.Ytephpkfajobhmaa
