/-
  SnapsPlay: the loop: definitions.
-/
import Derived.Test.YtmlfmmnnbdlabaaNQlDef
set_option linter.unusedSimpArgs false
set_option linter.unusedVariables false
namespace Go.Proofs.Ytmlfmmnnbdlabaa
open Go.Ev

structure PpOk (m : Nat) (f : Nat → Nat → AV) (al : Nat) (b : Int) (S : MS) (R : RS) (K : Nat) : Prop where
  r : ∀ i, i < m → 0 ≤ avInt (f i 0)
  both : ∀ k, Both (psN m f S R k).S (psN m f S R k).R
  num0 : R.D.n ≤ 100000
  num : ∀ k, k ≤ K → (psR m f k (psN m f S R (k - 1)).R).D.n ≤ 100000 ∧ (psN m f S R k).R.D.n ≤ 100000
  num1 : (psR m f 0 R).D.n ≤ 100000
  w0 : 0 ≤ mget (psM m f 0 S).M (key 5 0 0) ∧ 0 ≤ dWord (psR m f 0 R).D 5 0 0
  rb : rbN (psR m f 0 R).D.n (wdF (psR m f 0 R).D.W) = b
  tb : tbN (psM m f 0 S).M = Int.ofNat al
  bal : Int.ofNat al = 4 * b
  pre : ∀ k, k < K → TkPre (psN m f S R k).F (psN m f S R k).ta (psN m f S R k).fl (Int.ofNat al) al
  rt : ∀ k, k < K → RtPre b (psN m f S R k).fl (rtL (rdN (psN m f S R k).fl (psN m f S R k).ta) (psN m f S R k).fl (psR m f (k + 1) (psN m f S R k).R).D.n (wdF (psR m f (k + 1) (psN m f S R k).R).D.W) (psN m f S R k).F) (rdN (psN m f S R k).fl (psN m f S R k).ta) (rtN (psN m f S R k).fl (rdN (psN m f S R k).fl (psN m f S R k).ta)) (psR m f (k + 1) (psN m f S R k).R).D.n (psR m f (k + 1) (psN m f S R k).R).D.n (wdF (psR m f (k + 1) (psN m f S R k).R).D.W) (psN m f S R k).F (rtF (rdN (psN m f S R k).fl (psN m f S R k).ta) (psN m f S R k).fl (psR m f (k + 1) (psN m f S R k).R).D.n (wdF (psR m f (k + 1) (psN m f S R k).R).D.W) (psN m f S R k).F)
  eN : ∀ k, k < K → rtN (psN m f S R k).fl (rdN (psN m f S R k).fl (psN m f S R k).ta) = rdN (psN m f S R (k + 1)).fl (psN m f S R (k + 1)).ta
  eA : ∀ k, k < K → Int.ofNat (rtN (psN m f S R k).fl (rdN (psN m f S R k).fl (psN m f S R k).ta) - 1) = (psN m f S R k).ta
  eL : ∀ k, k < K → rtL (rdN (psN m f S R k).fl (psN m f S R k).ta) (psN m f S R k).fl (psR m f (k + 1) (psN m f S R k).R).D.n (wdF (psR m f (k + 1) (psN m f S R k).R).D.W) (psN m f S R k).F = (psN m f S R (k + 1)).fl
  eF : ∀ k, k < K → (psN m f S R (k + 1)).F = rtF (rdN (psN m f S R k).fl (psN m f S R k).ta) (psN m f S R k).fl (psR m f (k + 1) (psN m f S R k).R).D.n (wdF (psR m f (k + 1) (psN m f S R k).R).D.W) (psN m f S R k).F
  go : ∀ k, k < K → (psN m f S R k).ta ≠ Int.ofNat al
  ov : (psN m f S R K).ta = Int.ofNat al
  gr : ∀ k, k < K → ((rtL (rdN (psN m f S R k).fl (psN m f S R k).ta) (psN m f S R k).fl (psR m f (k + 1) (psN m f S R k).R).D.n (wdF (psR m f (k + 1) (psN m f S R k).R).D.W) (psN m f S R k).F = 0 ∧ Int.ofNat (rtN (psN m f S R k).fl (rdN (psN m f S R k).fl (psN m f S R k).ta)) = 4 * b) ↔ (psN m f S R (k + 1)).ta = Int.ofNat al)
theorem psM_pos {m : Nat} {f : Nat → Nat → AV} {k : Nat} (S : MS) (h : k < m) : psM m f k S = mStore S (avInt (f (0 + k) 0)) (avInt (f (0 + k) 1)) (avInt (f (0 + k) 2)) (avInt (f (0 + k) 3)) := if_pos h
theorem psM_neg {m : Nat} {f : Nat → Nat → AV} {k : Nat} (S : MS) (h : ¬ k < m) : psM m f k S = S := if_neg h
theorem psR_pos {m : Nat} {f : Nat → Nat → AV} {k : Nat} (R : RS) (h : k < m) : psR m f k R = rStore R (avInt (f (0 + k) 0)) (avInt (f (0 + k) 1)) (avInt (f (0 + k) 2)) (avInt (f (0 + k) 3)) := if_pos h
theorem psR_neg {m : Nat} {f : Nat → Nat → AV} {k : Nat} (R : RS) (h : ¬ k < m) : psR m f k R = R := if_neg h
theorem psN_zero (m : Nat) (f : Nat → Nat → AV) (S : MS) (R : RS) : psN m f S R 0 = psZ (psM m f 0 S) (psR m f 0 R) := rfl
theorem psN_succ (m : Nat) (f : Nat → Nat → AV) (S : MS) (R : RS) (k : Nat) : psN m f S R (k + 1) = psS (psM m f (k + 1) (psN m f S R k).S) (psR m f (k + 1) (psN m f S R k).R) (psN m f S R k) := rfl
theorem rd_zero : rdN 0 0 = 0 := rfl

end Go.Proofs.Ytmlfmmnnbdlabaa
