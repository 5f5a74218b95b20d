/-
  Stalls: Pins: definitions.
-/
import Derived.Test.YtephpkfajobhmaaWSa
set_option linter.unusedSimpArgs false
set_option linter.unusedVariables false
namespace Go.Proofs.Ytephpkfajobhmaa
open Go.Ev
noncomputable def ESq : Env := envG Try.prog [(128, locSP saISpec)]
theorem ESq_ok : EnvOk ESq := envG_ok mgood ⟨locSP_ok saISpec_ok, trivial⟩
theorem pins_same (n l l' : Nat) (r r' : Bool) (g : Nat → Nat → AV) (sl ge : Int) (mk : Bool) (b ep er ew : Int) : decide (srch (saIP n l r g sl ge mk b ep er) n (fun i => Int.ofNat i) (-1) ≥ 0) = srchB (saPP n l' r' g sl ge mk b ep er ew) n := by
  have e : saPP n l' r' g sl ge mk b ep er ew = saIP n l r g sl ge mk b ep er := by
    funext i; simp only [saPP, saIP, gt_iff_lt]
  rw [e]; unfold srch srchB
  by_cases h : fnd (saIP n l r g sl ge mk b ep er) n < n <;> simp [h]

noncomputable def saQH (n l : Nat) (r : Bool) (g : Nat → Nat → AV) (sl ge : Int) (mk : Bool) (b ep er : Int) (ew : Int) : List (Nat × AO) := [(1, .arr 10 tSh r l g)]
noncomputable def saQR (n l : Nat) (r : Bool) (g : Nat → Nat → AV) (sl ge : Int) (mk : Bool) (b ep er : Int) (ew : Int) : LR := ⟨1, .symb (srchB (saPP n l r g sl ge mk b ep er ew) n), [(1, .arr 10 tSh r l g)], 0, [], [n ≤ l, n ≤ 1000000]⟩
end Go.Proofs.Ytephpkfajobhmaa
