/-
  ErasMay: definitions.
-/
import Derived.Test.YtmhjecenmgbpeaaMMay
set_option linter.unusedSimpArgs false
set_option linter.unusedVariables false
namespace Go.Proofs.Ytmhjecenmgbpeaa
open Go.Ev
noncomputable def EMy : Env := envG Try.prog [(33, rawSP l17Spec), (36, locSP bgSpec), (91, locSP ixfSpec), (35, locSP rmaSpec)]
theorem EMy_ok : EnvOk EMy := envG_ok mgood ⟨rawSP_ok l17Spec_ok, locSP_ok bgSpec_ok, locSP_ok ixfSpec_ok, locSP_ok rmaSpec_ok, trivial⟩
noncomputable def myRun (n : Nat) (g : Nat → Nat → AV) (sl ge : Int) (mk : Bool) (b ep er th : Int) (h : List Hint) : Option (AV × List Prop × Bool) := (callF EMy 5000 6 [.ss 10 1 0 n none, .agg [.sym .i64 sl, .sym .u32 ge, .symb mk, .sym .u64 b, .sym .u64 ep, .sym .u64 er], .sym .i64 th] ⟨[(1, .arr 10 tSh true n g)], 2, gnm 0, h, [], [], false⟩).map (fun x => (x.1, x.2.ob, noneIn [(1, .arr 10 tSh true n g)] x.2.wr))
theorem may_same (n l l' : Nat) (r r' : Bool) (g : Nat → Nat → AV) (sl ge : Int) (mk : Bool) (b ep er ew : Int) : decide (srch (ixfP n l r g sl ge mk b ep er) n (fun i => Int.ofNat i) (-1) ≥ 0) = srchB (rmaP n l' r' g sl ge mk b ep er ew) n := by
  have e : rmaP n l' r' g sl ge mk b ep er ew = ixfP n l r g sl ge mk b ep er := by
    funext i; simp only [rmaP, ixfP, ge_iff_le]
  rw [e]; unfold srch srchB
  by_cases h : fnd (ixfP n l r g sl ge mk b ep er) n < n <;> simp [h]
end Go.Proofs.Ytmhjecenmgbpeaa
