/-
  BarriersPlay: the plain law.
-/
import Derived.Test.YtmlfmmnnbdlabaaDoorQBm
import Derived.Test.YtmlfmmnnbdlabaaDoorEvFam3
set_option linter.unusedSimpArgs false
set_option linter.unusedVariables false
namespace Go.Proofs.YtmlfmmnnbdlabaaDoor
open Go.Ev
structure PbOn (n : Nat) (al : Int) (k : Nat) (y : PB) : Prop where
  fin : Fin2 y.S y.R (n + 2 * (k + 1))
  xon : y.x.on = true
  don : y.d.on = true
  at_ : y.x.at_ = y.d.at_ - 2
  ar : 2 ≤ y.d.at_ ∧ y.d.at_ ≤ 5
  th : y.x.th = y.d.th
  tr : 0 ≤ y.d.th ∧ y.d.th < al
  lk : y.x.lk = (if 1 > y.d.lk then 1 else y.d.lk)
  lr : -9223372036854775808 ≤ y.d.lk ∧ y.d.lk ≤ 60
  wt : y.x.wt = y.d.wt
  en : y.d.en = 4
  xe : y.x.en = 0
structure PbOff (n k : Nat) (y : PB) : Prop where
  fin : Fin2 y.S y.R (n + 2 * (k + 1))
  xon : y.x.on = false
  don : y.d.on = false
  en : y.x.en = y.d.en
  wt : y.x.wt = y.d.wt
def pbPhi (al : Int) (y : PB) : Int := 4 * (al - y.d.th) - (y.d.at_ - 2) + 4 * (y.x.lk - 1)
section
variable {m : Nat} {f : Nat → Nat → AV}
theorem pb_fin (hf : ∀ i, i < m → 0 ≤ avInt (f i 3) ∧ avInt (f i 3) < 18446744073709551616) {S : MS} {R : RS} {q : Nat} (h : Fin2 S R q) (k : Nat) : Fin2 (pbM m f k S) (pbR m f k R) (q + 1) := by
  unfold pbM pbR
  by_cases c : k < m
  · rw [if_pos c, if_pos c]
    exact h.store _ _ _ _ (by rw [Nat.zero_add]; exact hf k c)
  · rw [if_neg c, if_neg c]
    exact h.one
variable (hf : ∀ i, i < m → 0 ≤ avInt (f i 3) ∧ avInt (f i 3) < 18446744073709551616) {S : MS} {R : RS} {n : Nat} {nb lk al : Int}
theorem pb_lk {n k : Nat} {al : Int} {y : PB} (h : PbOn n al k y) : 1 ≤ y.x.lk ∧ y.x.lk ≤ 60 := by
  rw [h.lk]; have := h.lr; split <;> omega
include hf
theorem pb_step {k : Nat} (h : PbOn n al k (pbN m f nb lk al S R k)) : (PbOn n al (k + 1) (pbN m f nb lk al S R (k + 1)) ∧ pbPhi al (pbN m f nb lk al S R (k + 1)) < pbPhi al (pbN m f nb lk al S R k)) ∨ PbOff n (k + 1) (pbN m f nb lk al S R (k + 1)) := by
  rw [pbN_succ]
  generalize pbN m f nb lk al S R k = y at *
  have hfin := pb_fin hf h.fin (k + 1)
  generalize pbM m f (k + 1) y.S = S1 at *
  generalize pbR m f (k + 1) y.R = R1 at *
  have hl := pb_lk h
  obtain ⟨_, hxo, hdo, hat, har, hth, htr, hlk, hlr, hwt, hen, hxe⟩ := h
  have hfin2 : Fin2 (pbS nb al S1 R1 y).S (pbS nb al S1 R1 y).R (n + 2 * (k + 1 + 1)) := by
    have := (hfin.load 8 y.x.th (bpFld y.x.at_)).mono (show n + 2 * (k + 1) + 1 + 1 ≤ n + 2 * (k + 1 + 1) by omega)
    show Fin2 (mLoad S1 8 y.x.th (bpFld y.x.at_)) (rLoad R1 8 y.d.th (bpFld (y.d.at_ - 2))) _
    rw [← hth, ← hat]; exact this
  have hw : dWord R1.D 8 y.d.th (bpFld (y.d.at_ - 2)) = mget S1.M (key 8 y.x.th (bpFld y.x.at_)) := by
    rw [← hth, ← hat]; exact (hfin.fine.both.agr _ _ _).symm
  have ex : (pbS nb al S1 R1 y).x = bpS nb al ⟨y.x.lk, y.x.th, y.x.at_, y.x.wt, y.x.en, true⟩ (mget S1.M (key 8 y.x.th (bpFld y.x.at_))) := rfl
  have ed : (pbS nb al S1 R1 y).d = bpD nb al ⟨y.d.lk, y.d.th, y.d.at_, y.d.wt, y.d.en, true⟩ (mget S1.M (key 8 y.x.th (bpFld y.x.at_))) := by
    show bpD nb al _ (dWord R1.D 8 y.d.th (bpFld (y.d.at_ - 2))) = _
    rw [hw]
  generalize mget S1.M (key 8 y.x.th (bpFld y.x.at_)) = w at *
  cases hp : bpPass nb y.x.at_ w with
  | true =>
    rw [bpS_pass (x := ⟨y.x.lk, y.x.th, y.x.at_, y.x.wt, y.x.en, true⟩) hp] at ex
    rw [bpD_pass (x := ⟨y.d.lk, y.d.th, y.d.at_, y.d.wt, y.d.en, true⟩) (by show bpPass nb (y.d.at_ - 2) w = true; rw [← hat]; exact hp)] at ed
    by_cases c : y.d.th + 1 < al
    · left
      refine ⟨⟨hfin2, ?_, ?_, ?_, ?_, ?_, ?_, ?_, ?_, ?_, ?_, ?_⟩, ?_⟩
      · rw [ex]; exact decide_eq_true (show y.x.th + 1 < al by omega)
      · rw [ed]; exact decide_eq_true (show y.d.th + 1 ≠ al by omega)
      · rw [ex, ed]; rfl
      · rw [ed]; exact ⟨Int.le_refl 2, (by decide : (2 : Int) ≤ 5)⟩
      · rw [ex, ed]; show y.x.th + 1 = y.d.th + 1; omega
      · rw [ed]; show 0 ≤ y.d.th + 1 ∧ y.d.th + 1 < al; omega
      · rw [ex, ed]; exact hlk
      · rw [ed]; exact hlr
      · rw [ex, ed]
      · rw [ed]; show (if y.d.th + 1 = al then 0 else y.d.en) = 4; rw [if_neg (by omega)]; exact hen
      · rw [ex]; exact hxe
      · unfold pbPhi; rw [ex, ed]; show 4 * (al - (y.d.th + 1)) - (2 - 2) + 4 * (y.x.lk - 1) < _; omega
    · right
      refine ⟨hfin2, ?_, ?_, ?_, ?_⟩
      · rw [ex]; exact decide_eq_false (show ¬ y.x.th + 1 < al by omega)
      · rw [ed]; exact decide_eq_false (show ¬ y.d.th + 1 ≠ al by omega)
      · rw [ex, ed]; show y.x.en = (if y.d.th + 1 = al then 0 else y.d.en); rw [if_pos (by omega)]; exact hxe
      · rw [ex, ed]
  | false =>
    have hpd : bpPass nb (y.d.at_ - 2) w = false := by rw [← hat]; exact hp
    by_cases a5 : y.d.at_ = 5
    · by_cases hl1 : 1 < y.x.lk
      · rw [bpS_look (x := ⟨y.x.lk, y.x.th, y.x.at_, y.x.wt, y.x.en, true⟩) hp (show y.x.at_ = 3 by omega) hl1] at ex
        have hl2 : 1 < y.d.lk := by rw [hlk] at hl1; split at hl1 <;> omega
        have hl3 : y.x.lk = y.d.lk := by rw [hlk, if_neg (by omega)]
        rw [bpD_look (x := ⟨y.d.lk, y.d.th, y.d.at_, y.d.wt, y.d.en, true⟩) hpd a5 hl2] at ed
        left
        refine ⟨⟨hfin2, ?_, ?_, ?_, ?_, ?_, ?_, ?_, ?_, ?_, ?_, ?_⟩, ?_⟩
        · rw [ex]
        · rw [ed]
        · rw [ex, ed]; rfl
        · rw [ed]; exact ⟨Int.le_refl 2, (by decide : (2 : Int) ≤ 5)⟩
        · rw [ex, ed]; exact hth
        · rw [ed]; exact htr
        · rw [ex, ed]; show y.x.lk - 1 = (if 1 > y.d.lk - 1 then 1 else y.d.lk - 1); rw [if_neg (by omega), hl3]
        · rw [ed]; show _ ≤ y.d.lk - 1 ∧ y.d.lk - 1 ≤ 60; omega
        · rw [ex, ed]; exact hth
        · rw [ed]; exact hen
        · rw [ex]; exact hxe
        · unfold pbPhi; rw [ex, ed]; show 4 * (al - y.d.th) - (2 - 2) + 4 * (y.x.lk - 1 - 1) < _; omega
      · rw [bpS_gone (x := ⟨y.x.lk, y.x.th, y.x.at_, y.x.wt, y.x.en, true⟩) hp (show y.x.at_ = 3 by omega) hl1] at ex
        have hl2 : ¬ 1 < y.d.lk := by rw [hlk] at hl1; split at hl1 <;> omega
        rw [bpD_gone (x := ⟨y.d.lk, y.d.th, y.d.at_, y.d.wt, y.d.en, true⟩) hpd a5 hl2] at ed
        right
        refine ⟨hfin2, ?_, ?_, ?_, ?_⟩
        · rw [ex]
        · rw [ed]
        · rw [ex, ed]
        · rw [ex, ed]; exact hth
    · rw [bpS_fail (x := ⟨y.x.lk, y.x.th, y.x.at_, y.x.wt, y.x.en, true⟩) hp (show y.x.at_ ≠ 3 by omega)] at ex
      rw [bpD_fail (x := ⟨y.d.lk, y.d.th, y.d.at_, y.d.wt, y.d.en, true⟩) hpd a5] at ed
      left
      refine ⟨⟨hfin2, ?_, ?_, ?_, ?_, ?_, ?_, ?_, ?_, ?_, ?_, ?_⟩, ?_⟩
      · rw [ex]
      · rw [ed]
      · rw [ex, ed]; show y.x.at_ + 1 = y.d.at_ + 1 - 2; omega
      · rw [ed]; show 2 ≤ y.d.at_ + 1 ∧ y.d.at_ + 1 ≤ 5; omega
      · rw [ex, ed]; exact hth
      · rw [ed]; exact htr
      · rw [ex, ed]; exact hlk
      · rw [ed]; exact hlr
      · rw [ex, ed]; exact hwt
      · rw [ed]; exact hen
      · rw [ex]; exact hxe
      · unfold pbPhi; rw [ex, ed]; show 4 * (al - y.d.th) - (y.d.at_ + 1 - 2) + 4 * (y.x.lk - 1) < _; omega
theorem pb_run : ∀ (N k : Nat), PbOn n al k (pbN m f nb lk al S R k) → pbPhi al (pbN m f nb lk al S R k) ≤ N → ∃ K, k < K ∧ K ≤ k + N ∧ (∀ j, k ≤ j → j < K → PbOn n al j (pbN m f nb lk al S R j)) ∧ PbOff n K (pbN m f nb lk al S R K)
  | 0, k, h, hN => by
    have h1 := pb_lk h
    have h2 := h.tr
    have h3 := h.ar
    unfold pbPhi at hN
    omega
  | N + 1, k, h, hN => by
    rcases pb_step hf h with ⟨h1, h2⟩ | h1
    · obtain ⟨K, k1, k2, k3, k4⟩ := pb_run N (k + 1) h1 (by simp at hN ⊢; omega)
      refine ⟨K, by omega, by omega, fun j j1 j2 => ?_, k4⟩
      by_cases c : j = k
      · subst c; exact h
      · exact k3 j (by omega) j2
    · exact ⟨k + 1, by omega, by omega, fun j j1 j2 => by
        have : j = k := by omega
        subst this; exact h, h1⟩
theorem pb_ok (hr : ∀ i, i < m → 0 ≤ avInt (f i 0)) (h : Fin2 S R n) (hn : n ≤ 300) (hnb : 0 ≤ nb ∧ nb < 18446744073709551616) (hlk : -9223372036854775808 ≤ lk ∧ lk ≤ 60)
    (ha : al = 4 * (if 4 < mget (pbM m f 0 S).M (key 5 0 0) then 4 else mget (pbM m f 0 S).M (key 5 0 0))) :
    ∃ K, K < 399 ∧ PbOk m f nb lk al S R K ∧ (al ≠ 0 → 0 < K) ∧ (al = 0 → K = 0) ∧ Both (pbN m f nb lk al S R K).S (pbN m f nb lk al S R K).R := by
  have h0 := pb_fin hf h 0
  have hw0 : 0 ≤ mget (pbM m f 0 S).M (key 5 0 0) := (h0.u _).1
  have hal : 0 ≤ al ∧ al ≤ 16 := by rw [ha]; split <;> omega
  have hz : Fin2 (pbN m f nb lk al S R 0).S (pbN m f nb lk al S R 0).R (n + 2 * (0 + 1)) := by
    rw [pbN_zero]; exact (h0.load 5 0 0).mono (by omega)
  have hwd : dWord (pbR m f 0 R).D 5 0 0 = mget (pbM m f 0 S).M (key 5 0 0) := (h0.fine.both.agr _ _ _).symm
  have hn0 : R.D.n ≤ 100000 := by have := h.fine.num; omega
  have hn1 : (pbR m f 0 R).D.n ≤ 100000 := by have := h0.fine.num; omega
  by_cases c : al = 0
  · refine ⟨0, by omega, ⟨hr, fun k hk => ?_, hn0, fun k hk => ?_, hn1, hw0, hwd, ha, fun k hk => absurd hk (Nat.not_lt_zero _), fun k hk => absurd hk (Nat.not_lt_zero _), fun k hk => absurd hk (Nat.not_lt_zero _), fun k hk => by omega⟩, fun e => absurd c e, fun _ => rfl, hz.fine.both⟩
    · obtain rfl : k = 0 := by omega
      exact hz.fine.both
    · obtain rfl : k = 0 := by omega
      have a1 := (pb_fin hf hz 0).fine.num
      have a2 := hz.fine.num
      exact ⟨by show (pbR m f 0 (pbN m f nb lk al S R 0).R).D.n ≤ 100000; omega, by omega⟩
  · have hon : PbOn n al 0 (pbN m f nb lk al S R 0) := by
      refine ⟨hz, ?_, ?_, ?_, ?_, ?_, ?_, ?_, ?_, ?_, ?_, ?_⟩ <;> rw [pbN_zero]
      · exact decide_eq_true (by omega)
      · exact decide_eq_true (by omega)
      · show (0 : Int) = (if al = 0 then 0 else 2) - 2; rw [if_neg c]; rfl
      · show 2 ≤ (if al = 0 then (0 : Int) else 2) ∧ (if al = 0 then (0 : Int) else 2) ≤ 5; rw [if_neg c]; decide
      · rfl
      · exact ⟨Int.le_refl _, by show (0 : Int) < al; omega⟩
      · rfl
      · exact hlk
      · rfl
      · exact if_neg c
      · rfl
    have hphi : pbPhi al (pbN m f nb lk al S R 0) ≤ (300 : Nat) := by
      have := pb_lk hon
      unfold pbPhi
      rw [pbN_zero] at this ⊢
      show 4 * (al - 0) - ((if al = 0 then 0 else 2) - 2) + 4 * ((if 1 > lk then 1 else lk) - 1) ≤ _
      rw [if_neg c]
      have h2 : (if 1 > lk then (1 : Int) else lk) ≤ 60 := this.2
      simp at h2 ⊢
      omega
    obtain ⟨K, k1, k2, k3, k4⟩ := pb_run hf 300 0 hon hphi
    refine ⟨K, by omega, ⟨hr, fun k hk => ?_, hn0, fun k hk => ?_, hn1, hw0, hwd, ha, fun k hk => ?_, fun k hk => ?_, fun k hk => ?_, fun k hk => ?_⟩, fun _ => k1, fun e => absurd e c, k4.fin.fine.both⟩
    · by_cases e : k = K
      · subst e; exact k4.fin.fine.both
      · exact (k3 k (by omega) (by omega)).fin.fine.both
    · have a2 : (pbN m f nb lk al S R k).R.D.n ≤ 100000 := by
        by_cases e : k = K
        · subst e; have := k4.fin.fine.num; omega
        · have := (k3 k (by omega) (by omega)).fin.fine.num; omega
      have a3 := (pb_fin hf (k3 (k - 1) (by omega) (by omega)).fin k).fine.num
      exact ⟨by omega, a2⟩
    · have q := k3 k (by omega) hk
      have ql := pb_lk q
      have q1 := q.tr
      have q2 := q.ar
      exact ⟨by show 0 ≤ (pbN m f nb lk al S R k).x.at_ ∧ (pbN m f nb lk al S R k).x.at_ ≤ 3; rw [q.at_]; omega, by show 0 ≤ (pbN m f nb lk al S R k).x.th ∧ (pbN m f nb lk al S R k).x.th < al; rw [q.th]; omega, by omega, by show 1 ≤ (pbN m f nb lk al S R k).x.lk ∧ (pbN m f nb lk al S R k).x.lk ≤ 1000; omega⟩
    · have q := k3 k (by omega) hk
      have hk1 := pb_fin hf q.fin (k + 1)
      have q3 := q.lr
      exact ⟨q.ar, q.tr, by omega, by show -9223372036854775808 ≤ (pbN m f nb lk al S R k).d.lk ∧ (pbN m f nb lk al S R k).d.lk ≤ 1000; omega, Nat.le_refl _, by have := hk1.fine.num; omega, hnb, fun j => by
        have e : dWord (dOf (pbR m f (k + 1) (pbN m f nb lk al S R k).R).D.n (wdF (pbR m f (k + 1) (pbN m f nb lk al S R k).R).D.W)) 8 (pbN m f nb lk al S R k).d.th j = mget (pbM m f (k + 1) (pbN m f nb lk al S R k).S).M (key 8 (pbN m f nb lk al S R k).d.th j) := (hk1.fine.both.agr _ _ _).symm
        show 0 ≤ dWord (dOf (pbR m f (k + 1) (pbN m f nb lk al S R k).R).D.n (wdF (pbR m f (k + 1) (pbN m f nb lk al S R k).R).D.W)) 8 (pbN m f nb lk al S R k).d.th j ∧ _ < _
        rw [e]; exact hk1.u _⟩
    · have q := k3 (k + 1) (by omega) hk
      have q1 := q.ar
      exact ⟨q.xon, q.don, by omega, q.en, q.wt⟩
    · subst hk
      exact ⟨k4.xon, k4.don, k4.en, k4.wt⟩
end
end Go.Proofs.YtmlfmmnnbdlabaaDoor
