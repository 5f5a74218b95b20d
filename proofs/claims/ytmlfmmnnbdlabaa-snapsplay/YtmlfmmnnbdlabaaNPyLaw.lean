/-
  SnapsPlay: the plain law: where a Taker stands.
-/
import Derived.Test.YtmlfmmnnbdlabaaNQm
import Derived.Test.YtmlfmmnnbdlabaaNSn
import Derived.Test.YtmlfmmnnbdlabaaEvFam
set_option linter.unusedSimpArgs false
set_option linter.unusedVariables false
namespace Go.Proofs.Ytmlfmmnnbdlabaa
open Go.Ev
theorem stN_congr {F G : Nat → Nat → AV} : ∀ i, (∀ a, a < i → avInt (F a 0) = avInt (G a 0)) → stN F i = stN G i
  | 0, _ => rfl
  | i + 1, h => by
    show (if avInt (F (0 + i) 0) = 0 then stN F i + 1 else stN F i + 10) = (if avInt (G (0 + i) 0) = 0 then stN G i + 1 else stN G i + 10)
    rw [Nat.zero_add, h i (by omega), stN_congr i (fun a ha => h a (by omega))]
theorem stN_le (F : Nat → Nat → AV) (i : Nat) : Int.ofNat i + 1 ≤ stN F i := by
  induction i with
  | zero => exact Int.le_refl _
  | succ i ih =>
    show Int.ofNat (i + 1) + 1 ≤ (if avInt (F (0 + i) 0) = 0 then stN F i + 1 else stN F i + 10)
    simp at ih ⊢
    split <;> omega
section
variable {m : Nat} {f : Nat → Nat → AV}
theorem ps_fin (hf : ∀ i, i < m → 0 ≤ avInt (f i 3) ∧ avInt (f i 3) < 18446744073709551616) {S : MS} {R : RS} {q : Nat} (h : Fin2 S R q) (k : Nat) : Fin2 (psM m f k S) (psR m f k R) (q + 1) := by
  unfold psM psR
  by_cases c : k < m
  · rw [if_pos c, if_pos c]
    exact h.store _ _ _ _ (by rw [Nat.zero_add]; exact hf k c)
  · rw [if_neg c, if_neg c]
    exact h.one
/-- Behind a step: where a Taker stands. -/
structure PyOk (n k : Nat) (y : PS) : Prop where
  fin : Fin2 y.S y.R (n + 2 * (k + 1))
  sy : ∀ i j, y.F i j = .sym .u64 (avInt (y.F i j))
  p : ∃ i q : Nat, y.ta = Int.ofNat i ∧ y.fl = Int.ofNat q ∧ q ≤ 9 ∧ (q ≠ 0 → avInt (y.F i 0) ≠ 0) ∧ Int.ofNat (k + 1) = stN y.F i + Int.ofNat q ∧ ∀ a j, (i < a ∨ a = i ∧ q ≤ j) → y.F a j = .sym .u64 0
variable (hf : ∀ i, i < m → 0 ≤ avInt (f i 3) ∧ avInt (f i 3) < 18446744073709551616) {S : MS} {R : RS} {n : Nat}
include hf
theorem py_zero (h : Fin2 S R n) : PyOk n 0 (psN m f S R 0) := by
  rw [psN_zero]
  exact ⟨((ps_fin hf h 0).load 5 0 0).mono (by omega), fun i j => rfl, 0, 0, rfl, rfl, by omega, fun h => absurd rfl h, rfl, fun a j _ => rfl⟩
/-- What a step does to where it stands: the next word's own thread. -/
theorem py_step {k : Nat} (h : PyOk n k (psN m f S R k)) : PyOk n (k + 1) (psN m f S R (k + 1)) ∧ ∀ i q : Nat, (psN m f S R k).ta = Int.ofNat i → (psN m f S R k).fl = Int.ofNat q → ((psN m f S R (k + 1)).ta = Int.ofNat i ∧ (psN m f S R (k + 1)).fl = Int.ofNat (q + 1) ∨ (psN m f S R (k + 1)).ta = Int.ofNat (i + 1) ∧ (psN m f S R (k + 1)).fl = 0) := by
  rw [psN_succ]
  generalize psN m f S R k = y at *
  have hfin := ps_fin hf h.fin (k + 1)
  generalize psM m f (k + 1) y.S = S1 at *
  generalize psR m f (k + 1) y.R = R1 at *
  obtain ⟨_, hsy, i, q, h1, h2, h9, ho, hk, hz⟩ := h
  have hF : ∀ a j, (psS S1 R1 y).F a j = if a = i then (if j = q then .sym .u64 (mget S1.M (key 8 (Int.ofNat i) (Int.ofNat q))) else y.F a j) else y.F a j := fun a j => by
    show tkF y.F y.ta y.fl (mget S1.M (key 8 y.ta y.fl)) a j = _
    unfold tkF
    rw [h1, h2]
    rfl
  have hsy2 : ∀ a j, (psS S1 R1 y).F a j = .sym .u64 (avInt ((psS S1 R1 y).F a j)) := fun a j => by
    rw [hF]
    by_cases c : a = i
    · rw [if_pos c]
      by_cases d : j = q
      · rw [if_pos d]; rfl
      · rw [if_neg d]; exact hsy a j
    · rw [if_neg c]; exact hsy a j
  have hfin2 : Fin2 (psS S1 R1 y).S (psS S1 R1 y).R (n + 2 * (k + 1 + 1)) := (hfin.load 8 y.ta y.fl).mono (by omega)
  have hO : tkOwn S1.M y.F y.ta y.fl = avInt ((psS S1 R1 y).F i 0) := by
    have e : tkOwn S1.M y.F y.ta y.fl = avInt ((psS S1 R1 y).F y.ta.toNat 0) := rfl
    rw [e, h1]; rfl
  have hq : q ≠ 0 → avInt ((psS S1 R1 y).F i 0) ≠ 0 := fun c => by
    rw [hF, if_pos rfl, if_neg (fun e => c e.symm)]; exact ho c
  have hst : stN (psS S1 R1 y).F i = stN y.F i := stN_congr i (fun a ha => by rw [hF, if_neg (by omega)])
  have hta : (psS S1 R1 y).ta = if avInt ((psS S1 R1 y).F i 0) = 0 ∨ q = 9 then Int.ofNat (i + 1) else Int.ofNat i := by
    show tkAt S1.M y.F y.ta y.fl = _
    unfold tkAt
    rw [hO]
    by_cases c : avInt ((psS S1 R1 y).F i 0) = 0 ∨ q = 9
    · rw [if_pos c, if_pos (c.imp id (fun e => by rw [h2, e]; rfl)), h1]; rfl
    · rw [if_neg c, if_neg (fun e => c (e.imp id (fun e => by rw [h2] at e; simp at e; omega))), h1]
  have hfl : (psS S1 R1 y).fl = if avInt ((psS S1 R1 y).F i 0) = 0 ∨ q = 9 then Int.ofNat 0 else Int.ofNat (q + 1) := by
    show tkFl S1.M y.F y.ta y.fl = _
    unfold tkFl
    rw [hO]
    by_cases c : avInt ((psS S1 R1 y).F i 0) = 0 ∨ q = 9
    · rw [if_pos c, if_pos (c.imp id (fun e => by rw [h2, e]; rfl))]; rfl
    · rw [if_neg c, if_neg (fun e => c (e.imp id (fun e => by rw [h2] at e; simp at e; omega))), h2]; rfl
  have hz2 : ∀ a j, i < a → (psS S1 R1 y).F a j = .sym .u64 0 := fun a j ha => by rw [hF, if_neg (by omega)]; exact hz a j (.inl ha)
  by_cases c : avInt ((psS S1 R1 y).F i 0) = 0 ∨ q = 9
  · rw [if_pos c] at hta hfl
    refine ⟨⟨hfin2, hsy2, i + 1, 0, hta, hfl, by omega, fun e => absurd rfl e, ?_, fun a j h => hz2 a j (by omega)⟩, fun i' q' e1 e2 => .inr ⟨by rw [hta]; have := Int.ofNat.inj (h1.symm.trans e1); rw [this], hfl⟩⟩
    show Int.ofNat (k + 1 + 1) = (if avInt ((psS S1 R1 y).F (0 + i) 0) = 0 then stN (psS S1 R1 y).F i + 1 else stN (psS S1 R1 y).F i + 10) + Int.ofNat 0
    rw [Nat.zero_add, hst]
    by_cases o : avInt ((psS S1 R1 y).F i 0) = 0
    · rw [if_pos o]
      have : q = 0 := Classical.byContradiction (fun e => hq e o)
      subst this
      simp at hk ⊢; omega
    · rw [if_neg o]
      have := c.resolve_left o
      subst this
      simp at hk ⊢; omega
  · rw [if_neg c] at hta hfl
    have hq9 : q ≠ 9 := fun e => c (.inr e)
    refine ⟨⟨hfin2, hsy2, i, q + 1, hta, hfl, by omega, fun _ e => c (.inl e), ?_, fun a j h => ?_⟩, fun i' q' e1 e2 => .inl ⟨by rw [hta, ← e1, h1], by rw [hfl, Int.ofNat.inj (h2.symm.trans e2)]⟩⟩
    · rw [hst]; simp at hk ⊢; omega
    · rcases h with h | ⟨h, h3⟩
      · exact hz2 a j h
      · rw [hF, if_pos h, if_neg (by omega)]; exact hz a j (.inr ⟨h, by omega⟩)
theorem py_all (h : Fin2 S R n) : ∀ k, PyOk n k (psN m f S R k)
  | 0 => py_zero hf h
  | k + 1 => (py_step hf (py_all h k)).1
end
/-- A number that starts at 0, and goes up by one at most, gets to al. -/
theorem first_at (t : Nat → Int) (al N : Nat) (h0 : t 0 = 0) (hs : ∀ k i : Nat, t k = Int.ofNat i → t (k + 1) = Int.ofNat i ∨ t (k + 1) = Int.ofNat (i + 1)) (hN : ∀ i : Nat, t N = Int.ofNat i → al ≤ i) : ∃ K, K ≤ N ∧ t K = Int.ofNat al ∧ ∀ k, k < K → ∃ i : Nat, t k = Int.ofNat i ∧ i < al := by
  have key : ∀ k, (∃ i : Nat, t k = Int.ofNat i ∧ i < al ∧ ∀ k2, k2 ≤ k → ∃ i2 : Nat, t k2 = Int.ofNat i2 ∧ i2 < al) ∨ ∃ K, K ≤ k ∧ t K = Int.ofNat al ∧ ∀ k2, k2 < K → ∃ i : Nat, t k2 = Int.ofNat i ∧ i < al := by
    intro k
    induction k with
    | zero =>
      by_cases c : al = 0
      · subst c; exact .inr ⟨0, Nat.le_refl _, h0, fun k2 h => absurd h (Nat.not_lt_zero _)⟩
      · exact .inl ⟨0, h0, by omega, fun k2 h => ⟨0, by rw [show k2 = 0 from Nat.le_zero.1 h]; exact h0, by omega⟩⟩
    | succ k ih =>
      rcases ih with ⟨i, h1, h2, h3⟩ | ⟨K, h1, h2, h3⟩
      · rcases hs k i h1 with e | e
        · exact .inl ⟨i, e, h2, fun k2 hk => by
            by_cases c : k2 = k + 1
            · subst c; exact ⟨i, e, h2⟩
            · exact h3 k2 (by omega)⟩
        · by_cases c : i + 1 = al
          · exact .inr ⟨k + 1, Nat.le_refl _, by rw [e, c], fun k2 hk => h3 k2 (by omega)⟩
          · exact .inl ⟨i + 1, e, by omega, fun k2 hk => by
              by_cases d : k2 = k + 1
              · subst d; exact ⟨i + 1, e, by omega⟩
              · exact h3 k2 (by omega)⟩
      · exact .inr ⟨K, by omega, h2, h3⟩
  rcases key N with ⟨i, h1, h2, _⟩ | h
  · have := hN i h1; omega
  · exact h
section
variable {m : Nat} {f : Nat → Nat → AV} {S : MS} {R : RS} {n : Nat}
/-- How many threads the first step finds. -/
def pyB (m : Nat) (f : Nat → Nat → AV) (S : MS) : Int := if 4 < mget (psM m f 0 S).M (key 5 0 0) then 4 else mget (psM m f 0 S).M (key 5 0 0)
def pyA (m : Nat) (f : Nat → Nat → AV) (S : MS) : Nat := (4 * pyB m f S).toNat
theorem py_ok (hr : ∀ i, i < m → 0 ≤ avInt (f i 0)) (hf : ∀ i, i < m → 0 ≤ avInt (f i 3) ∧ avInt (f i 3) < 18446744073709551616) (h : Fin2 S R n) (hn : n ≤ 300) :
    ∃ K, K ≤ 160 ∧ PpOk m f (pyA m f S) (pyB m f S) S R K ∧ pyA m f S ≤ 16 ∧ (pyA m f S = 0 → K = 0) ∧ (pyA m f S ≠ 0 → 0 < K) ∧ rdN (psN m f S R K).fl (psN m f S R K).ta = pyA m f S ∧ stN (psN m f S R K).F (pyA m f S) = Int.ofNat (K + 1) := by
  have hall := py_all hf h
  have h0 := ps_fin hf h 0
  have hb : 0 ≤ pyB m f S ∧ pyB m f S ≤ 4 := by
    unfold pyB
    have := (h0.u (key 5 0 0)).1
    split <;> omega
  have hal : Int.ofNat (pyA m f S) = 4 * pyB m f S := by unfold pyA; simp; omega
  generalize hA : pyA m f S = al at *
  have hal16 : al ≤ 16 := by have e := hal; simp at e; omega
  obtain ⟨K, hK, hov, hgo⟩ := first_at (fun k => (psN m f S R k).ta) al (10 * al) rfl (fun k i e => by
      obtain ⟨i', q, e1, e2, _⟩ := (hall k).p
      have e3 : (psN m f S R k).ta = Int.ofNat i := e
      rcases (py_step hf (hall k)).2 i q e3 e2 with ⟨p, _⟩ | ⟨p, _⟩
      · exact .inl p
      · exact .inr p) (fun i e => by
      obtain ⟨i', q, e1, e2, e9, _, ek, _⟩ := (hall (10 * al)).p
      have e3 : (psN m f S R (10 * al)).ta = Int.ofNat i := e
      have ei := Int.ofNat.inj (e1.symm.trans e3)
      subst ei
      have hb2 := stN_b (psN m f S R (10 * al)).F i'
      simp at ek
      omega)
  have hag := fun (k : Nat) => ps_fin hf (hall k).fin (k + 1)
  refine ⟨K, by omega, ?_, by omega, ?_, ?_, ?_, ?_⟩
  · refine ⟨hr, fun k => (hall k).fin.fine.both, by have := h.fine.num; omega, fun k hk => ?_, by have := h0.fine.num; omega, ⟨(h0.u _).1, ?_⟩, ?_, ?_, hal, ?_, ?_, ?_, ?_, ?_, ?_, ?_, hov, ?_⟩
    · have a1 := (ps_fin hf (hall (k - 1)).fin k).fine.num
      have a2 := (hall k).fin.fine.num
      omega
    · rw [← h0.fine.both.agr]; exact (h0.u _).1
    · show rbN (psR m f 0 R).D.n (wdF (psR m f 0 R).D.W) = pyB m f S
      show (if 4 < dWord (psR m f 0 R).D 5 0 0 then 4 else dWord (psR m f 0 R).D 5 0 0) = pyB m f S
      rw [← h0.fine.both.agr]; rfl
    · rw [hal]; rfl
    all_goals
      intro k hk
      obtain ⟨i, q, e1, e2, e9, eo, ek, ez⟩ := (hall k).p
      obtain ⟨i', f1, f2⟩ := hgo k hk
      have f3 : (psN m f S R k).ta = Int.ofNat i' := f1
      have ei := Int.ofNat.inj (e1.symm.trans f3)
      subst ei
      have hrd : rtN (psN m f S R k).fl (rdN (psN m f S R k).fl (psN m f S R k).ta) = i + 1 := by
        unfold rtN rdN
        rw [e1]
        by_cases c : (psN m f S R k).fl = 0
        · rw [if_pos c, if_pos c]; rfl
        · rw [if_neg c, if_neg c]; rfl
      have hFe : (psN m f S R (k + 1)).F = rtF (rdN (psN m f S R k).fl (psN m f S R k).ta) (psN m f S R k).fl (psR m f (k + 1) (psN m f S R k).R).D.n (wdF (psR m f (k + 1) (psN m f S R k).R).D.W) (psN m f S R k).F := by
        unfold rtF
        rw [hrd, Nat.add_sub_cancel, ← e1]
        show tkF _ _ _ (mget (psM m f (k + 1) (psN m f S R k).S).M _) = tkF _ _ _ (dWord (psR m f (k + 1) (psN m f S R k).R).D 8 _ _)
        rw [(hag k).fine.both.agr]
      have hLe : rtL (rdN (psN m f S R k).fl (psN m f S R k).ta) (psN m f S R k).fl (psR m f (k + 1) (psN m f S R k).R).D.n (wdF (psR m f (k + 1) (psN m f S R k).R).D.W) (psN m f S R k).F = (psN m f S R (k + 1)).fl := by
        unfold rtL
        rw [hrd, Nat.add_sub_cancel, ← hFe]
        show _ = tkFl (psM m f (k + 1) (psN m f S R k).S).M (psN m f S R k).F (psN m f S R k).ta (psN m f S R k).fl
        have eo2 : tkOwn (psM m f (k + 1) (psN m f S R k).S).M (psN m f S R k).F (psN m f S R k).ta (psN m f S R k).fl = avInt ((psN m f S R (k + 1)).F i 0) := by
          have e : tkOwn (psM m f (k + 1) (psN m f S R k).S).M (psN m f S R k).F (psN m f S R k).ta (psN m f S R k).fl = avInt ((psN m f S R (k + 1)).F (psN m f S R k).ta.toNat 0) := rfl
          rw [e, e1]; rfl
        unfold tkFl
        rw [eo2]
    · exact ⟨by rw [e2]; simp, by rw [e2]; simp; omega, by rw [e1]; simp, by rw [e1]; simpa using f2, rfl, by omega, fun hne => by
        rw [e1]; exact eo (fun e => hne (by rw [e2, e]; rfl))⟩
    · refine ⟨Nat.le_refl _, by have := (hag k).fine.num; omega, ?_, by rw [e2]; simp; omega, hb, fun c => by unfold rtN; rw [if_pos c], fun c => ?_, rfl, (hall k).sy, fun c j j1 j2 => ?_, fun c => ?_, rfl⟩
      · unfold rdN; rw [e1]; split <;> (show _ ≤ 1000; simp; omega)
      · unfold rtN rdN; rw [if_neg c, if_neg c]; exact ⟨rfl, by omega⟩
      · unfold rdN; rw [if_pos c, e1]
        have q0 : q = 0 := by rw [e2] at c; simpa using c
        exact ez i j (.inr ⟨rfl, by omega⟩)
      · unfold rdN; rw [if_neg c, e1]
        show avInt ((psN m f S R k).F (i + 1 - 1) 0) ≠ 0
        rw [Nat.add_sub_cancel]
        exact eo (fun e => c (by rw [e2, e]; rfl))
    · rw [hrd]
      unfold rdN
      rcases (py_step hf (hall k)).2 i q e1 e2 with ⟨p1, p2⟩ | ⟨p1, p2⟩
      · rw [p1, p2, if_neg (by simp; omega)]; rfl
      · rw [p1, p2, if_pos rfl]; rfl
    · rw [hrd, Nat.add_sub_cancel, e1]
    · exact hLe
    · exact hFe
    · rw [e1]; intro e; have := Int.ofNat.inj e; omega
    · rw [hLe, hrd]
      rcases (py_step hf (hall k)).2 i q e1 e2 with ⟨p1, p2⟩ | ⟨p1, p2⟩
      · rw [p1, p2]
        constructor
        · rintro ⟨c, _⟩; simp at c; omega
        · intro e; have := Int.ofNat.inj e; omega
      · rw [p1, p2, ← hal]
        exact ⟨fun c => c.2, fun c => ⟨rfl, c⟩⟩
  · intro e
    by_cases c : K = 0
    · exact c
    · obtain ⟨i, _, hi⟩ := hgo 0 (by omega)
      omega
  · intro e
    by_cases c : K = 0
    · subst c
      have : Int.ofNat 0 = Int.ofNat al := hov
      exact absurd (Int.ofNat.inj this).symm e
    · omega
  all_goals
    obtain ⟨i, q, e1, e2, e9, eo, ek, ez⟩ := (hall K).p
    have hov2 : (psN m f S R K).ta = Int.ofNat al := hov
    have ei := Int.ofNat.inj (e1.symm.trans hov2)
    subst ei
    have q0 : q = 0 := by
      by_cases c : K = 0
      · subst c
        have : Int.ofNat 0 = Int.ofNat q := e2
        exact (Int.ofNat.inj this).symm
      · obtain ⟨k, rfl⟩ : ∃ k, K = k + 1 := ⟨K - 1, by omega⟩
        obtain ⟨i2, q2, g1, g2, _⟩ := (hall k).p
        obtain ⟨i3, k1, k2⟩ := hgo k (by omega)
        have k3 : (psN m f S R k).ta = Int.ofNat i3 := k1
        have := Int.ofNat.inj (g1.symm.trans k3)
        subst this
        rcases (py_step hf (hall k)).2 i2 q2 g1 g2 with ⟨p1, p2⟩ | ⟨p1, p2⟩
        · have := Int.ofNat.inj (p1.symm.trans e1); omega
        · have : Int.ofNat q = Int.ofNat 0 := e2.symm.trans p2
          exact Int.ofNat.inj this
    subst q0
  · unfold rdN; rw [e2, if_pos (show Int.ofNat 0 = 0 from rfl), e1]; rfl
  · rw [ek]; simp
end
end Go.Proofs.Ytmlfmmnnbdlabaa
