/-
  Contains: definitions.
-/
import Derived.Test.YtmndhjodbnojdaaDoorJVa
set_option linter.unusedSimpArgs false
set_option linter.unusedVariables false
namespace Go.Proofs.YtmndhjodbnojdaaDoor
open Go.Ev
noncomputable def EIc : Env := envG Tryd.prog [(167, locSP idzSpec)]
theorem EIc_ok : EnvOk EIc := envG_ok mgood ⟨locSP_ok idzSpec_ok, trivial⟩
/-- Is a number in a list? -/
def anyE (n : Nat) (f : Nat → Nat → AV) (s : Int) : Bool := decide (srch (fun i => s == avInt (f (0 + i) 0)) n (fun i => Int.ofNat i) (-1) ≥ 0)
theorem anyE_iff {n : Nat} {f : Nat → Nat → AV} {s : Int} : anyE n f s = true ↔ ∃ i, i < n ∧ s = avInt (f i 0) := by
  unfold anyE
  rcases first_true (fun i => s == avInt (f (0 + i) 0)) n with h | ⟨k, h1, h2, h3⟩
  · rw [srch_no h]
    constructor
    · intro q; exact absurd (of_decide_eq_true q) (by decide)
    · rintro ⟨i, hi, e⟩
      have := h i hi
      simp [e] at this
  · rw [srch_at h1 h2 h3]
    constructor
    · intro _; exact ⟨k, h1, by simpa using h2⟩
    · intro _; exact decide_eq_true (by simp)

noncomputable def ctbH (n l : Nat) (r : Bool) (f : Nat → Nat → AV) (s : Int) : List (Nat × AO) := [(1, .arr 1 [.int .i64] r l f)]
noncomputable def ctbR (n l : Nat) (r : Bool) (f : Nat → Nat → AV) (s : Int) : LR := ⟨1, .symb (anyE n f s), [(1, .arr 1 [.int .i64] r l f)], 0, [], [n ≤ l, n ≤ 1000000]⟩
end Go.Proofs.YtmndhjodbnojdaaDoor
