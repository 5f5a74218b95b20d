/-
  BarriersPlay: the loop: definitions.
-/
import Derived.Test.YtmlfmmnnbdlabaaDoorQBlDef
set_option linter.unusedSimpArgs false
set_option linter.unusedVariables false
namespace Go.Proofs.YtmlfmmnnbdlabaaDoor
open Go.Ev

structure PbOk (m : Nat) (f : Nat → Nat → AV) (nb lk al : Int) (S : MS) (R : RS) (K : Nat) : Prop where
  r : ∀ i, i < m → 0 ≤ avInt (f i 0)
  both : ∀ k, k ≤ K → Both (pbN m f nb lk al S R k).S (pbN m f nb lk al S R k).R
  num0 : R.D.n ≤ 100000
  num : ∀ k, k ≤ K → (pbR m f k (pbN m f nb lk al S R (k - 1)).R).D.n ≤ 100000 ∧ (pbN m f nb lk al S R k).R.D.n ≤ 100000
  num1 : (pbR m f 0 R).D.n ≤ 100000
  w0 : 0 ≤ mget (pbM m f 0 S).M (key 5 0 0)
  wd : dWord (pbR m f 0 R).D 5 0 0 = mget (pbM m f 0 S).M (key 5 0 0)
  ala : al = 4 * (if 4 < mget (pbM m f 0 S).M (key 5 0 0) then 4 else mget (pbM m f 0 S).M (key 5 0 0))
  pre : ∀ k, k < K → BpPre nb al ⟨(pbN m f nb lk al S R k).x.lk, (pbN m f nb lk al S R k).x.th, (pbN m f nb lk al S R k).x.at_, (pbN m f nb lk al S R k).x.wt, (pbN m f nb lk al S R k).x.en, true⟩
  prd : ∀ k, k < K → BdPre nb al ⟨(pbN m f nb lk al S R k).d.lk, (pbN m f nb lk al S R k).d.th, (pbN m f nb lk al S R k).d.at_, (pbN m f nb lk al S R k).d.wt, (pbN m f nb lk al S R k).d.en, true⟩ (pbR m f (k + 1) (pbN m f nb lk al S R k).R).D.n (pbR m f (k + 1) (pbN m f nb lk al S R k).R).D.n (wdF (pbR m f (k + 1) (pbN m f nb lk al S R k).R).D.W)
  go : ∀ k, k + 1 < K → (pbN m f nb lk al S R (k + 1)).x.on = true ∧ (pbN m f nb lk al S R (k + 1)).d.on = true ∧ (pbN m f nb lk al S R (k + 1)).d.at_ ≠ 0 ∧ (pbN m f nb lk al S R (k + 1)).d.en = 4 ∧ (pbN m f nb lk al S R (k + 1)).x.wt = (pbN m f nb lk al S R (k + 1)).d.wt
  ov : ∀ k, k + 1 = K → (pbN m f nb lk al S R (k + 1)).x.on = false ∧ (pbN m f nb lk al S R (k + 1)).d.on = false ∧ (pbN m f nb lk al S R (k + 1)).x.en = (pbN m f nb lk al S R (k + 1)).d.en ∧ (pbN m f nb lk al S R (k + 1)).x.wt = (pbN m f nb lk al S R (k + 1)).d.wt
theorem pbM_pos {m : Nat} {f : Nat → Nat → AV} {k : Nat} (S : MS) (h : k < m) : pbM m f k S = mStore S (avInt (f (0 + k) 0)) (avInt (f (0 + k) 1)) (avInt (f (0 + k) 2)) (avInt (f (0 + k) 3)) := if_pos h
theorem pbM_neg {m : Nat} {f : Nat → Nat → AV} {k : Nat} (S : MS) (h : ¬ k < m) : pbM m f k S = S := if_neg h
theorem pbR_pos {m : Nat} {f : Nat → Nat → AV} {k : Nat} (R : RS) (h : k < m) : pbR m f k R = rStore R (avInt (f (0 + k) 0)) (avInt (f (0 + k) 1)) (avInt (f (0 + k) 2)) (avInt (f (0 + k) 3)) := if_pos h
theorem pbR_neg {m : Nat} {f : Nat → Nat → AV} {k : Nat} (R : RS) (h : ¬ k < m) : pbR m f k R = R := if_neg h
theorem pbN_zero (m : Nat) (f : Nat → Nat → AV) (nb lk al : Int) (S : MS) (R : RS) : pbN m f nb lk al S R 0 = pbZ lk al (pbM m f 0 S) (pbR m f 0 R) := rfl
theorem pbN_succ (m : Nat) (f : Nat → Nat → AV) (nb lk al : Int) (S : MS) (R : RS) (k : Nat) : pbN m f nb lk al S R (k + 1) = pbS nb al (pbM m f (k + 1) (pbN m f nb lk al S R k).S) (pbR m f (k + 1) (pbN m f nb lk al S R k).R) (pbN m f nb lk al S R k) := rfl
theorem bneF {a b : Int} (h : a = b) : (a != b) = false := by rw [h]; exact bne_self_eq_false _
theorem eqFa {a : Int} (h : a ≠ 0) : (((!true) == (a == 0)) == false) = false := by rw [beq_eq_false_iff_ne.2 h]; rfl
theorem eqFb {a : Int} (h : a ≠ 0) : ((false == (a == 0)) == false) = false := by rw [beq_eq_false_iff_ne.2 h]; rfl
/-- What the first step makes of the number of blocks. -/
theorem pb_al {b al : Int} (h0 : 0 ≤ b) (ha : al = 4 * (if 4 < b then 4 else b)) : IntKind.i64.wrap (IntKind.i64.wrap (if 4 < b then 4 else b) * 4) = al ∧ 0 ≤ al ∧ al ≤ 16 ∧ (4 < b → al = 16) ∧ (¬ 4 < b → IntKind.i64.wrap (4 * IntKind.i64.wrap b) = al ∧ al = 4 * b) := by
  have hq : 0 ≤ (if 4 < b then (4 : Int) else b) ∧ (if 4 < b then (4 : Int) else b) ≤ 4 := by split <;> omega
  refine ⟨?_, by omega, by omega, fun c => by rw [ha, if_pos c]; rfl, fun c => ?_⟩
  · rw [i64w (x := if 4 < b then 4 else b) (by omega) (by omega), i64w (by omega) (by omega)]; omega
  · rw [if_neg c] at ha
    rw [i64w (x := b) (by omega) (by omega), i64w (by omega) (by omega)]
    exact ⟨ha.symm, ha⟩

end Go.Proofs.YtmlfmmnnbdlabaaDoor
