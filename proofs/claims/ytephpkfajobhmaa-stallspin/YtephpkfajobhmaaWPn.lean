/-
  StallsPin in plain words.
-/
import Derived.Test.YtephpkfajobhmaaWSn
import Derived.Test.YtephpkfajobhmaaWBn
import Derived.Test.YtephpkfajobhmaaWSy
import Derived.Test.YtephpkfajobhmaaWSb
set_option linter.unusedSimpArgs false
set_option linter.unusedVariables false
namespace Go.Proofs.Ytephpkfajobhmaa
open Go.Ev
/-- One block, its threads owned; the era is e, thread w's Stall is s, the others' 0. -/
structure PinM (M : List Int → Option Int) (e s w : Int) : Prop where
  era : mget M (key 2 0 0) = e
  blk : mget M (key 5 0 0) = 1
  own : ∀ i : Int, 0 ≤ i → i < 4 → mget M (key 8 i 0) = 1
  st : ∀ i : Int, 0 ≤ i → i < 4 → mget M (key 8 i 6) = if i = w then s else 0
theorem may8 {w : Int} (h0 : 0 ≤ w) (h1 : w < 4) : mayA 8 w 6 = true := by
  unfold mayA kAt kFl; exact decide_eq_true ⟨by decide, h0, by simp; omega, by decide, by decide⟩
theorem PinM.stall {M : List Int → Option Int} {e s w : Int} (h : PinM M e s w) (h0 : 0 ≤ w) (h1 : w < 4) (v : Int) : PinM (memPut M 8 w 6 v) e v w := by
  refine ⟨?_, ?_, fun i a b => ?_, fun i a b => ?_⟩
  · rw [mget_put, if_neg (by simp)]; exact h.era
  · rw [mget_put, if_neg (by simp)]; exact h.blk
  · rw [mget_put, if_neg (by simp)]; exact h.own i a b
  · rw [mget_put]
    by_cases hi : i = w
    · rw [if_pos ⟨may8 h0 h1, rfl, hi, rfl⟩, if_pos hi]
    · rw [if_neg (fun q => hi q.2.2.1), if_neg hi, h.st i a b, if_neg hi]
theorem PinM.cas {M : List Int → Option Int} {e s w : Int} (h : PinM M e s w) (a b : Int) : PinM (casM M 2 0 0 a b) (if e = a then b else e) s w := by
  rw [casM_put, casD_may (show mayA 2 0 0 = true by decide), h.era]
  by_cases hh : e = a
  · rw [if_pos (by simp [hh]), if_pos hh]
    refine ⟨?_, ?_, fun i x y => ?_, fun i x y => ?_⟩
    · rw [mget_put, if_pos ⟨by decide, rfl, rfl, rfl⟩]
    · rw [mget_put, if_neg (by simp)]; exact h.blk
    · rw [mget_put, if_neg (by simp)]; exact h.own i x y
    · rw [mget_put, if_neg (by simp)]; exact h.st i x y
  · rw [if_neg (by simp [hh]), if_neg hh]; exact h
theorem PinM.bmp {S : MS} {e s w : Int} (h : PinM S.M e s w) (h0 : 0 ≤ e) (h1 : e < 18446744073709551615) : PinM (bmp1 S).M (e + 1) s w := by
  have h2 := h.cas (mget S.M (key 2 0 0)) (IntKind.u64.wrap (mget S.M (key 2 0 0) + 1))
  rw [if_pos h.era.symm, h.era, u64w (by omega) (by omega)] at h2
  show PinM (casM S.M 2 0 0 (mget S.M (key 2 0 0)) (IntKind.u64.wrap (mget S.M (key 2 0 0) + 1))) _ _ _
  rw [h.era, u64w (by omega) (by omega)]
  exact h2
theorem PinM.bmpN {S : MS} {e s w : Int} (h : PinM S.M e s w) (h0 : 0 ≤ e) : ∀ n : Nat, e + n < 18446744073709551615 → PinM (bmpN n S).M (e + n) s w
  | 0, _ => by simpa [Ytephpkfajobhmaa.bmpN] using h
  | n + 1, hn => by
    have := (PinM.bmpN h h0 n (by omega)).bmp (by omega) (by omega)
    rw [show e + ((n + 1 : Nat) : Int) = e + n + 1 by omega]
    exact this
theorem PinM.bgm (e w : Int) : PinM (bgm e) e 0 w := by
  have g : ∀ k a f, mget (Ytephpkfajobhmaa.bgm e) (key k a f) = if k = 8 ∧ a = 3 ∧ f = 0 then 1 else if k = 8 ∧ a = 2 ∧ f = 0 then 1 else if k = 8 ∧ a = 1 ∧ f = 0 then 1 else if k = 8 ∧ a = 0 ∧ f = 0 then 1 else if k = 5 ∧ a = 0 ∧ f = 0 then 1 else if k = 2 ∧ a = 0 ∧ f = 0 then e else 0 := fun k a f => by
    unfold Ytephpkfajobhmaa.bgm bg5
    rw [mget_put, mget_put, mget_put, mget_put, mget_put, mget_put]
    simp only [show mayA 8 3 0 = true by decide, show mayA 8 2 0 = true by decide, show mayA 8 1 0 = true by decide, show mayA 8 0 0 = true by decide, show mayA 5 0 0 = true by decide, show mayA 2 0 0 = true by decide, true_and]
    rfl
  refine ⟨by rw [g]; simp, by rw [g]; simp, fun i a b => ?_, fun i a b => ?_⟩
  · rcases (show i = 0 ∨ i = 1 ∨ i = 2 ∨ i = 3 by omega) with rfl | rfl | rfl | rfl <;> rw [g] <;> simp
  · rw [g]; simp
theorem PinM.pin {M : List Int → Option Int} {e s w : Int} (h : PinM M e s w) (h0 : 0 ≤ w) (h1 : w < 4) {b : Int} (hb : 0 ≤ b) : pinB 4 (snRow M) b = decide (s > b) := by
  have c : ∀ i : Nat, i < 4 → avInt (snRow M i 6) = if (i : Int) = w then s else 0 := fun i hi => h.st i (by omega) (by omega)
  unfold pinB
  by_cases hs : s > b
  · rw [decide_eq_true hs]
    rcases first_true (fun i => decide (avInt (snRow M i 6) > b)) 4 with q | ⟨k, q1, q2, q3⟩
    · have := q w.toNat (by omega)
      rw [c _ (by omega), if_pos (by omega)] at this
      exact absurd (of_decide_eq_false this) (by omega)
    · exact srchB_at q1 q2 q3
  · rw [decide_eq_false hs]
    refine srchB_no (fun i hi => decide_eq_false ?_)
    rw [c i hi]; split <;> omega
theorem PinM.fl {M : List Int → Option Int} {e s w : Int} (h : PinM M e s w) (h0 : 0 ≤ w) (h1 : w < 4) : fl (thOf (snRow M)) 4 = if s = 0 then [] else [w.toNat] := by
  have o : ∀ i : Nat, i < 4 → thOf (snRow M) i 0 = 1 := fun i hi => h.own i (by omega) (by omega)
  have c : ∀ i : Nat, i < 4 → thOf (snRow M) i 6 = if (i : Int) = w then s else 0 := fun i hi => h.st i (by omega) (by omega)
  rw [fl_succ, fl_succ, fl_succ, fl_succ, o 0 (by decide), o 1 (by decide), o 2 (by decide), o 3 (by decide), c 0 (by decide), c 1 (by decide), c 2 (by decide), c 3 (by decide)]
  rcases (show w = 0 ∨ w = 1 ∨ w = 2 ∨ w = 3 by omega) with rfl | rfl | rfl | rfl <;> by_cases hs : s = 0 <;> simp [hs, Ytephpkfajobhmaa.fl]
end Go.Proofs.Ytephpkfajobhmaa
