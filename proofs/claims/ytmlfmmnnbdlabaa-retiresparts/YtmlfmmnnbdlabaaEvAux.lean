/-
  Plain facts for contracts: searching, counting, numbers.
-/
import Derived.Test.YtmlfmmnnbdlabaaEvNorm
set_option linter.unusedSimpArgs false
set_option linter.unusedVariables false
namespace Go.Ev

/-- The first place below n at which p holds, else n. -/
def fnd (p : Nat → Bool) : Nat → Nat
  | 0 => 0
  | n + 1 => if fnd p n < n then fnd p n else if p n = true then n else n + 1
theorem fnd_le (p : Nat → Bool) : ∀ n, fnd p n ≤ n
  | 0 => Nat.le_refl _
  | n + 1 => by have := fnd_le p n; simp only [fnd]; split <;> (try split) <;> omega
theorem fnd_none {p : Nat → Bool} : ∀ {n : Nat}, (∀ j, j < n → p j = false) → fnd p n = n
  | 0, _ => rfl
  | n + 1, h => by
    have := fnd_none (p := p) (n := n) (fun j hj => h j (by omega))
    simp [fnd, this, h n (by omega)]
theorem fnd_eq {p : Nat → Bool} {i : Nat} : ∀ {n : Nat}, i < n → p i = true → (∀ j, j < i → p j = false) → fnd p n = i
  | 0, h, _, _ => by omega
  | n + 1, h, hp, hb => by
    by_cases e : i = n
    · subst e
      have := fnd_none hb
      simp [fnd, this, hp]
    · have := fnd_eq (n := n) (by omega) hp hb
      simp [fnd, this]; omega
theorem first_true (p : Nat → Bool) (n : Nat) : (∀ i, i < n → p i = false) ∨ ∃ k, k < n ∧ p k = true ∧ ∀ i, i < k → p i = false := by
  rcases first_false (fun i => !p i) n with h | ⟨k, h1, h2, h3⟩
  · exact .inl (fun i hi => by simpa using h i hi)
  · exact .inr ⟨k, h1, by simpa using h2, fun i hi => by simpa using h3 i hi⟩
theorem fnd_spec {p : Nat → Bool} {n : Nat} (h : fnd p n < n) : p (fnd p n) = true ∧ ∀ j, j < fnd p n → p j = false := by
  rcases first_true p n with h1 | ⟨k, h1, h2, h3⟩
  · rw [fnd_none h1] at h; omega
  · rw [fnd_eq h1 h2 h3]; exact ⟨h2, h3⟩
theorem fnd_no {p : Nat → Bool} {n : Nat} (h : ¬ fnd p n < n) : ∀ j, j < n → p j = false := by
  rcases first_true p n with h1 | ⟨k, h1, h2, h3⟩
  · exact h1
  · rw [fnd_eq h1 h2 h3] at h; omega

/-- What is found at the first place, else another. -/
def srch (p : Nat → Bool) (n : Nat) (v : Nat → Int) (v0 : Int) : Int := if fnd p n < n then v (fnd p n) else v0
def srchB (p : Nat → Bool) (n : Nat) : Bool := decide (fnd p n < n)
theorem srch_at {p : Nat → Bool} {n k : Nat} {v : Nat → Int} {v0 : Int} (h1 : k < n) (h2 : p k = true) (h3 : ∀ i, i < k → p i = false) : srch p n v v0 = v k := by
  unfold srch; rw [fnd_eq h1 h2 h3, if_pos h1]
theorem srch_no {p : Nat → Bool} {n : Nat} {v : Nat → Int} {v0 : Int} (h : ∀ i, i < n → p i = false) : srch p n v v0 = v0 := by
  unfold srch; rw [fnd_none h, if_neg (Nat.lt_irrefl _)]
theorem srchB_at {p : Nat → Bool} {n k : Nat} (h1 : k < n) (h2 : p k = true) (h3 : ∀ i, i < k → p i = false) : srchB p n = true := by
  unfold srchB; rw [fnd_eq h1 h2 h3]; exact decide_eq_true h1
theorem srchB_no {p : Nat → Bool} {n : Nat} (h : ∀ i, i < n → p i = false) : srchB p n = false := by
  unfold srchB; rw [fnd_none h]; exact decide_eq_false (Nat.lt_irrefl _)
theorem srch_congr {p q : Nat → Bool} {n : Nat} {v w : Nat → Int} {v0 : Int} (h : ∀ i, i < n → p i = q i) (hv : ∀ i, i < n → v i = w i) : srch p n v v0 = srch q n w v0 := by
  rcases first_true p n with h1 | ⟨k, h1, h2, h3⟩
  · rw [srch_no h1, srch_no (fun i hi => by rw [← h i hi]; exact h1 i hi)]
  · rw [srch_at h1 h2 h3, srch_at h1 (by rw [← h k h1]; exact h2) (fun i hi => by rw [← h i (by omega)]; exact h3 i hi), hv k h1]

theorem and2_eq (a b : Bool) : and2 a b = (a && b) := by cases a <;> rfl
theorem u64m (x : Int) : IntKind.u64.wrap x = x % 18446744073709551616 := by
  simp [IntKind.wrap, IntKind.signed, IntKind.bits]
theorem u64r (x : Int) : 0 ≤ IntKind.u64.wrap x ∧ IntKind.u64.wrap x < 18446744073709551616 := by rw [u64m]; omega
theorem u64w {x : Int} (h0 : 0 ≤ x) (h1 : x < 18446744073709551616) : IntKind.u64.wrap x = x := by rw [u64m]; omega
theorem u8m (x : Int) : IntKind.u8.wrap x = x % 256 := by
  simp [IntKind.wrap, IntKind.signed, IntKind.bits]
theorem i64w {x : Int} (h0 : -9223372036854775808 ≤ x) (h1 : x < 9223372036854775808) : IntKind.i64.wrap x = x := by
  show (if (true && decide (x % 18446744073709551616 ≥ (9223372036854775808 : Int))) = true then x % 18446744073709551616 - 18446744073709551616 else x % 18446744073709551616) = x
  by_cases h : x % 18446744073709551616 ≥ 9223372036854775808
  · rw [if_pos (by simpa using h)]; omega
  · rw [if_neg (by simpa using h)]; omega

/-- A law's ways. -/
def Runs (run : List Hint → Option (AV × List Prop × Bool)) : Prop := ∃ h v ob, run h = some (v, ob, true) ∧ isTrue v ∧ ∀ p ∈ ob, p
theorem goodB {P : Program} (h1 : P.follows .mixedOrders = true) (h2 : P.funcs.toList.all (fun fn => !fn.body.isSome || !(fn.name == "runtime.NumGoroutine")) = true) : Good P where
  mixed := h1
  names := fun f fn h h3 => by
    have hm : fn ∈ P.funcs.toList := by
      obtain ⟨hlt, rfl⟩ := Array.getElem?_eq_some_iff.1 h
      simp
    have := List.all_eq_true.1 h2 fn hm
    simpa [h3] using this
theorem eq_no {b : Bool} : ((b == b) == false) = false := by cases b <;> rfl
theorem avI_s (k : IntKind) (n : Int) : avInt (.sym k n) = n := rfl
theorem avI_i (k : IntKind) (n : Int) : avInt (.int k n) = n := rfl
theorem avB_s (b : Bool) : avBool (.symb b) = b := rfl
theorem avB_b (b : Bool) : avBool (.bool b) = b := rfl
theorem u8_range {n : Int} (h : (Lit.int .u8 n).wf = true) : 0 ≤ n ∧ n < 256 := by
  simp [Lit.wf, IntKind.min, IntKind.max, IntKind.bits, IntKind.signed] at h; omega
theorem u16_range {n : Int} (h : (Lit.int .u16 n).wf = true) : 0 ≤ n ∧ n < 65536 := by
  simp [Lit.wf, IntKind.min, IntKind.max, IntKind.bits, IntKind.signed] at h; omega
theorem u32_range {n : Int} (h : (Lit.int .u32 n).wf = true) : 0 ≤ n ∧ n < 4294967296 := by
  simp [Lit.wf, IntKind.min, IntKind.max, IntKind.bits, IntKind.signed] at h; omega
theorem i64_range {n : Int} (h : (Lit.int .i64 n).wf = true) : -9223372036854775808 ≤ n ∧ n < 9223372036854775808 := by
  simp [Lit.wf, IntKind.min, IntKind.max, IntKind.bits, IntKind.signed] at h; omega
end Go.Ev
