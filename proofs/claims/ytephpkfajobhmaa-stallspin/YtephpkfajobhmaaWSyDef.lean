/-
  Stalls: Pins, any capacity: definitions.
-/
import Derived.Test.YtephpkfajobhmaaWSz
set_option linter.unusedSimpArgs false
set_option linter.unusedVariables false
namespace Go.Proofs.Ytephpkfajobhmaa
open Go.Ev
noncomputable def ESz : Env := envG Try.prog [(128, locSP szISpec)]
theorem ESz_ok : EnvOk ESz := envG_ok mgood ⟨locSP_ok szISpec_ok, trivial⟩
/-- Is an entry of this birth pinned? -/
def pinB (n : Nat) (g : Nat → Nat → AV) (b : Int) : Bool := srchB (fun i => decide (avInt (g i 6) > b)) n
theorem pin_same (n l : Nat) (r : Bool) (g : Nat → Nat → AV) (sl ge : Int) (mk : Bool) (b ep er : Int) (cc : Option Nat) : decide (srch (szIP n l r g sl ge mk b ep er cc) n (fun i => Int.ofNat i) (-1) ≥ 0) = pinB n g b := by
  have e : szIP n l r g sl ge mk b ep er cc = fun i => decide (avInt (g i 6) > b) := by
    funext i; simp only [szIP, Nat.zero_add]
  rw [e]; unfold pinB srch srchB
  by_cases h : fnd (fun i => decide (avInt (g i 6) > b)) n < n <;> simp [h]

noncomputable def szQH (n l : Nat) (r : Bool) (g : Nat → Nat → AV) (sl ge : Int) (mk : Bool) (b ep er : Int) (cc : Option Nat) (ew : Int) : List (Nat × AO) := [(1, .arr 10 tSh r l g)]
noncomputable def szQR (n l : Nat) (r : Bool) (g : Nat → Nat → AV) (sl ge : Int) (mk : Bool) (b ep er : Int) (cc : Option Nat) (ew : Int) : LR := ⟨1, .symb (pinB n g b), [(1, .arr 10 tSh r l g)], 0, [], [n ≤ l, n ≤ 1000000]⟩
end Go.Proofs.Ytephpkfajobhmaa
