/-
  Histories as such: what is kept from act to act.
-/
import Derived.Test.YtnecknppajbcdaaHPlayDef
set_option linter.unusedSimpArgs false
set_option linter.unusedVariables false
namespace Go.Proofs.Ytnecknppajbcdaa
open Go.Ev
def uP (C : Nat → Cl) (t : Int) (i : Nat) : Bool := and2 ((C i).th == t) (decide ((C i).to < 0))
theorem uP_iff {C : Nat → Cl} {t : Int} {i : Nat} : uP C t i = true ↔ (C i).th = t ∧ (C i).to < 0 := by
  unfold uP; rw [and2_eq]; simp
theorem uP_no {C : Nat → Cl} {t : Int} {i : Nat} : uP C t i = false ↔ ¬ ((C i).th = t ∧ (C i).to < 0) := by
  rw [← uP_iff]; simp
structure HInv (S : HS) : Prop where
  last : 0 ≤ S.last
  rng : ∀ i, i < S.n → ((S.C i).to = -1 ∨ 0 ≤ (S.C i).to) ∧ ((S.C i).pt = -1 ∨ 0 ≤ (S.C i).pt) ∧ 0 ≤ (S.C i).fr ∧ (0 ≤ (S.C i).op ∧ (S.C i).op < 256) ∧ 0 ≤ (S.C i).an ∧ (S.C i).an < 256
  uniq : ∀ i k, i < S.n → k < S.n → i ≠ k → (S.C i).th = (S.C k).th → 0 ≤ (S.C i).to ∨ 0 ≤ (S.C k).to
  und : ∀ t, undI S.U t = srch (uP S.C t) S.n (fun i => Int.ofNat i) (-1)
structure AOk (x : Ac) : Prop where
  o : 0 ≤ x.o ∧ x.o < 256
  a : 0 ≤ x.a ∧ x.a < 256
theorem rund_eq (C : Nat → Cl) (t : Int) (n l : Nat) (last : Int) : rundP t n l (dF C) last = uP C t := by
  funext i
  show and2 (avInt (dF C (0 + i) 0) == t) (decide (avInt (dF C (0 + i) 8) < 0)) = uP C t i
  rw [Nat.zero_add]; rfl
theorem srch_ge (p : Nat → Bool) (n : Nat) : srch p n (fun i => Int.ofNat i) (-1) = -1 ∨ 0 ≤ srch p n (fun i => Int.ofNat i) (-1) := by
  unfold srch; split
  · exact .inr (by simp)
  · exact .inl rfl
theorem wr8 {x : Int} (h : 0 ≤ x ∧ x < 256) : IntKind.i64.wrap x = x := i64w (by omega) (by omega)
theorem rb_eq {S : HS} (h : HInv S) (t o s : Int) (l : Nat) : rbE S.last (srch (rundP t S.n l (dF S.C) S.last) S.n (fun i => Int.ofNat i) (-1)) t o s = bgE S.last (undI S.U t) t o s := by
  rw [rund_eq, ← h.und]
  have := srch_ge (uP S.C t) S.n
  rw [← h.und] at this
  unfold rbE bgE
  split <;> split <;> (try split) <;> (try split) <;> omega
theorem rp_eq {S : HS} (h : HInv S) (c a s : Int) : rpE S.n S.C c a s = ptE S.n S.C c a s := by
  unfold rpE ptE
  by_cases h1 : c < 0 ∨ (S.n : Int) ≤ c
  · simp [h1]
  · have := (h.rng c.toNat (by omega)).1
    simp only [h1, if_false]
    split
    · rfl
    · split <;> split <;> omega
theorem re_eq {S : HS} (h : HInv S) (c s : Int) : reE S.n S.C S.last c s = enE S.n S.C S.last c s := by
  unfold reE enE
  by_cases h1 : c < 0 ∨ (S.n : Int) ≤ c
  · simp [h1]
  · have := (h.rng c.toNat (by omega)).1
    simp only [h1, if_false]
    split
    · rfl
    · split <;> split <;> omega
theorem rn_eq {S : HS} (h : HInv S) (e c s : Int) : ∀ i, i < S.n → rnC e S.C c s i = enC e S.C c s i := by
  intro i hi
  unfold rnC enC
  have := (h.rng i hi).2.1
  split
  · congr 1; split <;> split <;> omega
  · rfl
theorem bg_ok {last u t o s : Int} (h : bgE last u t o s = 0) : 0 ≤ t ∧ t < 16 ∧ o ≤ 7 ∧ last ≤ s ∧ u = -1 := by
  unfold bgE at h
  split at h
  · split at h
    · omega
    · rename_i a b; exact ⟨a.1, a.2.1, a.2.2.1, a.2.2.2, by omega⟩
  · omega
theorem setKey_same (U : List Int → Option Int) (k : List Int) (v : Option Int) : setKey U k v k = v := by simp [setKey]
theorem setKey_ne (U : List Int → Option Int) {k q : List Int} (v : Option Int) (h : q ≠ k) : setKey U k v q = U q := by simp [setKey, h]
theorem und_set_same (U : List Int → Option Int) (t n : Int) : undI (setKey U [t] (some n)) t = n := by unfold undI; rw [setKey_same]
theorem und_del_same (U : List Int → Option Int) (t : Int) : undI (setKey U [t] none) t = -1 := by unfold undI; rw [setKey_same]
theorem und_set_ne (U : List Int → Option Int) {t t' : Int} (v : Option Int) (h : t' ≠ t) : undI (setKey U [t] v) t' = undI U t' := by unfold undI; rw [setKey_ne _ _ (by simpa using h)]
theorem srch_none_iff {p : Nat → Bool} {n : Nat} (h : srch p n (fun i => Int.ofNat i) (-1) = -1) : ∀ i, i < n → p i = false := by
  rcases first_true p n with h1 | ⟨k, h1, h2, h3⟩
  · exact h1
  · rw [srch_at h1 h2 h3] at h; simp at h
theorem srch_succ {p q : Nat → Bool} {n : Nat} (hp : ∀ i, i < n → p i = q i) (hn : q n = false) : srch q (n + 1) (fun i => Int.ofNat i) (-1) = srch p n (fun i => Int.ofNat i) (-1) := by
  rcases first_true p n with h1 | ⟨k, h1, h2, h3⟩
  · rw [srch_no h1, srch_no]
    intro i hi
    by_cases e : i = n
    · rw [e]; exact hn
    · rw [← hp i (by omega)]; exact h1 i (by omega)
  · rw [srch_at h1 h2 h3, srch_at (k := k) (by omega) (by rw [← hp k h1]; exact h2) (fun i hi => by rw [← hp i (by omega)]; exact h3 i hi)]
theorem inv_snoc {S : HS} (h : HInv S) {t s : Int} {c : Cl} (C' : Nat → Cl) (hC : ∀ i, i < S.n → C' i = S.C i) (hCn : C' S.n = c) (c1 : c.th = t) (c2 : c.to = -1) (c3 : c.pt = -1) (c4 : 0 ≤ c.fr) (c5 : 0 ≤ c.op ∧ c.op < 256) (c6 : 0 ≤ c.an ∧ c.an < 256)
    (hno : ∀ i, i < S.n → uP S.C t i = false) (hs : S.last ≤ s) : HInv ⟨S.n + 1, C', setKey S.U [t] (some (Int.ofNat S.n)), s⟩ := by
  have hl := h.last
  refine { last := ?_, rng := fun i (hi : i < S.n + 1) => ?_, uniq := fun i k (hi : i < S.n + 1) (hk : k < S.n + 1) hne (ht : (C' i).th = (C' k).th) => ?_, und := fun u => ?_ }
  · show 0 ≤ s; omega
  · show ((C' i).to = -1 ∨ 0 ≤ (C' i).to) ∧ ((C' i).pt = -1 ∨ 0 ≤ (C' i).pt) ∧ 0 ≤ (C' i).fr ∧ (0 ≤ (C' i).op ∧ (C' i).op < 256) ∧ 0 ≤ (C' i).an ∧ (C' i).an < 256
    by_cases e : i = S.n
    · subst e; rw [hCn]; exact ⟨.inl c2, .inl c3, c4, c5, c6⟩
    · rw [hC i (by omega)]; exact h.rng i (by omega)
  · show 0 ≤ (C' i).to ∨ 0 ≤ (C' k).to
    by_cases e : i = S.n
    · subst e
      rw [hCn, c1, hC k (by omega)] at ht
      have := uP_no.1 (hno k (by omega))
      right; rw [hC k (by omega)]
      rcases Int.lt_or_le (S.C k).to 0 with q | q
      · exact (this ⟨ht.symm, q⟩).elim
      · exact q
    · by_cases e2 : k = S.n
      · subst e2
        rw [hCn, c1, hC i (by omega)] at ht
        have := uP_no.1 (hno i (by omega))
        left; rw [hC i (by omega)]
        rcases Int.lt_or_le (S.C i).to 0 with q | q
        · exact (this ⟨ht, q⟩).elim
        · exact q
      · rw [hC i (by omega), hC k (by omega)] at ht ⊢
        exact h.uniq i k (by omega) (by omega) hne ht
  · show undI (setKey S.U [t] (some (Int.ofNat S.n))) u = srch (uP C' u) (S.n + 1) (fun i => Int.ofNat i) (-1)
    have hp : ∀ i, i < S.n → uP S.C u i = uP C' u i := fun i hi => by unfold uP; rw [hC i hi]
    by_cases e : u = t
    · subst e
      rw [und_set_same]
      refine (srch_at (k := S.n) (by omega) ?_ (fun i hi => ?_)).symm
      · rw [uP_iff, hCn]; exact ⟨c1, by omega⟩
      · rw [← hp i hi]; exact hno i hi
    · rw [und_set_ne _ _ e, h.und]
      refine (srch_succ hp ?_).symm
      rw [uP_no, hCn, c1]
      exact fun q => e q.1.symm
theorem inv_congr {S : HS} (h : HInv S) {C' : Nat → Cl} (hC : ∀ i, i < S.n → C' i = S.C i) : HInv ⟨S.n, C', S.U, S.last⟩ := by
  refine { last := h.last, rng := fun i (hi : i < S.n) => ?_, uniq := fun i k (hi : i < S.n) (hk : k < S.n) hne (ht : (C' i).th = (C' k).th) => ?_, und := fun u => ?_ }
  · show ((C' i).to = -1 ∨ 0 ≤ (C' i).to) ∧ ((C' i).pt = -1 ∨ 0 ≤ (C' i).pt) ∧ 0 ≤ (C' i).fr ∧ (0 ≤ (C' i).op ∧ (C' i).op < 256) ∧ 0 ≤ (C' i).an ∧ (C' i).an < 256
    rw [hC i hi]; exact h.rng i hi
  · show 0 ≤ (C' i).to ∨ 0 ≤ (C' k).to
    rw [hC i hi, hC k hk] at ht ⊢; exact h.uniq i k hi hk hne ht
  · show undI S.U u = srch (uP C' u) S.n _ _
    rw [h.und]
    exact srch_congr (fun i hi => by unfold uP; rw [hC i hi]) (fun _ _ => rfl)
theorem hBeg_inv {S : HS} (h : HInv S) {x : Ac} (hx : AOk x) : HInv (hBeg S x) := by
  have hC : ∀ i, i < S.n → snocC S.n S.C (mkCl x.t x.o x.ky x.va x.s) i = S.C i := fun i hi => by simp [snocC, hi]
  have hCn : snocC S.n S.C (mkCl x.t x.o x.ky x.va x.s) S.n = mkCl x.t x.o x.ky x.va x.s := by simp [snocC]
  unfold hBeg
  by_cases he : bgE S.last (undI S.U x.t) x.t x.o x.s = 0
  · obtain ⟨h1, h2, h3, h4, h5⟩ := bg_ok he
    simp only [onOk_t he]
    have hl := h.last
    rw [h.und] at h5
    exact inv_snoc h _ hC hCn rfl rfl rfl (by show 0 ≤ x.s; omega) hx.o ⟨by show (0 : Int) ≤ 0; omega, by show (0 : Int) < 256; omega⟩ (srch_none_iff h5) h4
  · simp only [onOk_f he]
    exact inv_congr h hC
theorem pt_ok {n : Nat} {C : Nat → Cl} {c a s : Int} (h : ptE n C c a s = 0) : 0 ≤ c ∧ c < n ∧ (C c.toNat).fr ≤ s ∧ (a = 1 ∨ a = 2) ∧ (C c.toNat).to = -1 := by
  unfold ptE at h
  split at h
  · omega
  · split at h
    · omega
    · split at h
      · omega
      · omega
theorem en_ok {n : Nat} {C : Nat → Cl} {last c s : Int} (h : enE n C last c s = 0) : 0 ≤ c ∧ c < n ∧ last ≤ s ∧ (C c.toNat).to = -1 := by
  unfold enE at h
  split at h
  · omega
  · split at h
    · omega
    · split at h
      · omega
      · omega
theorem hPnt_inv {S : HS} (h : HInv S) {x : Ac} (hx : AOk x) : HInv (hPnt S x) := by
  have hth : ∀ i, ((hPnt S x).C i).th = (S.C i).th ∧ ((hPnt S x).C i).to = (S.C i).to ∧ ((hPnt S x).C i).fr = (S.C i).fr ∧ ((hPnt S x).C i).op = (S.C i).op := fun i => by
    rw [show (hPnt S x).C i = ptC (ptE S.n S.C x.c x.a x.s) S.C x.c x.a x.va x.s i from rfl]
    unfold ptC
    split <;> exact ⟨rfl, rfl, rfl, rfl⟩
  refine ⟨?_, fun i hi => ?_, fun i k hi hk hne ht => ?_, fun t => ?_⟩
  · show 0 ≤ onOk _ _ _
    have := h.last
    unfold onOk
    split
    · split <;> omega
    · omega
  · obtain ⟨a1, a2, a3, a4⟩ := hth i
    have r := h.rng i hi
    rw [a2, a3, a4]
    refine ⟨r.1, ?_, r.2.2.1, r.2.2.2.1, ?_⟩
    · rw [show (hPnt S x).C i = ptC (ptE S.n S.C x.c x.a x.s) S.C x.c x.a x.va x.s i from rfl]
      unfold ptC
      split
      · rename_i q
        obtain ⟨b1, b2, b3, b4, b5⟩ := pt_ok q.1
        right; show 0 ≤ x.s
        rw [← q.2] at b3
        have := r.2.2.1; omega
      · exact r.2.1
    · show 0 ≤ (ptC _ S.C x.c x.a x.va x.s i).an ∧ (ptC _ S.C x.c x.a x.va x.s i).an < 256
      unfold ptC
      split
      · exact hx.a
      · exact r.2.2.2.2
  · rw [(hth i).1, (hth k).1] at ht
    rw [(hth i).2.1, (hth k).2.1]
    exact h.uniq i k hi hk hne ht
  · show undI S.U t = _
    rw [h.und]
    exact srch_congr (fun i hi => by unfold uP; rw [(hth i).1, (hth i).2.1]) (fun _ _ => rfl)
theorem hEnd_inv {S : HS} (h : HInv S) {x : Ac} (hx : AOk x) : HInv (hEnd S x) := by
  have hl := h.last
  have hth : ∀ i, ((hEnd S x).C i).th = (S.C i).th ∧ ((hEnd S x).C i).pt = (S.C i).pt ∧ ((hEnd S x).C i).fr = (S.C i).fr ∧ ((hEnd S x).C i).op = (S.C i).op := fun i => by
    rw [show (hEnd S x).C i = enC (enE S.n S.C S.last x.c x.s) S.C x.c x.s i from rfl]
    unfold enC
    split <;> exact ⟨rfl, rfl, rfl, rfl⟩
  by_cases he : enE S.n S.C S.last x.c x.s = 0
  · obtain ⟨b1, b2, b3, b4⟩ := en_ok he
    have hto : ((hEnd S x).C x.c.toNat).to = x.s := by
      show (enC _ S.C x.c x.s x.c.toNat).to = _
      unfold enC; rw [if_pos ⟨he, rfl⟩]
    have hot : ∀ i, i ≠ x.c.toNat → ((hEnd S x).C i).to = (S.C i).to := fun i hi => by
      show (enC _ S.C x.c x.s i).to = _
      unfold enC; rw [if_neg (fun q => hi q.2)]
    refine ⟨?_, fun i hi => ?_, fun i k hi hk hne ht => ?_, fun t => ?_⟩
    · show 0 ≤ onOk _ _ _
      rw [onOk_t he]; omega
    · obtain ⟨a1, a2, a3, a4⟩ := hth i
      have r := h.rng i hi
      rw [a2, a3, a4]
      refine ⟨?_, r.2.1, r.2.2.1, r.2.2.2.1, ?_⟩
      · by_cases e : i = x.c.toNat
        · rw [e, hto]; right; omega
        · rw [hot i e]; exact r.1
      · show 0 ≤ (enC _ S.C x.c x.s i).an ∧ (enC _ S.C x.c x.s i).an < 256
        unfold enC
        split
        · show 0 ≤ (if (S.C i).pt = -1 then (3 : Int) else (S.C i).an) ∧ (if (S.C i).pt = -1 then (3 : Int) else (S.C i).an) < 256
          have := r.2.2.2.2
          split <;> omega
        · exact r.2.2.2.2
    · rw [(hth i).1, (hth k).1] at ht
      have := h.uniq i k hi hk hne ht
      by_cases e : i = x.c.toNat
      · left; rw [e, hto]; omega
      · by_cases e2 : k = x.c.toNat
        · right; rw [e2, hto]; omega
        · rw [hot i e, hot k e2]; exact this
    · show undI (onOk _ _ _) t = _
      rw [onOk_t he]
      by_cases e : t = (S.C x.c.toNat).th
      · subst e
        rw [und_del_same]
        refine (srch_no (fun i hi => ?_)).symm
        rw [uP_no, (hth i).1]
        rintro ⟨q1, q2⟩
        by_cases e : i = x.c.toNat
        · rw [e, hto] at q2; omega
        · rw [hot i e] at q2
          have hi : i < S.n := hi
          rcases h.uniq i x.c.toNat hi (by omega) e q1 with q | q <;> omega
      · rw [und_set_ne _ _ e, h.und]
        refine srch_congr (fun i hi => ?_) (fun _ _ => rfl)
        unfold uP; rw [(hth i).1]
        by_cases e2 : i = x.c.toNat
        · have : ((S.C i).th == t) = false := by rw [e2]; simpa using fun q => e q.symm
          rw [this]; rfl
        · rw [hot i e2]
  · unfold hEnd
    simp only [onOk_f he]
    exact inv_congr h (fun i _ => by unfold enC; rw [if_neg (fun q => he q.1)])
theorem sam_ok {S : HS} (h : HInv S) (f : Nat → Nat → AV) (hf : f = cF S.C) : ∀ i, i < S.n → samP S.n S.n S.n S.n none none false false f (dF S.C) i = false := by
  subst hf
  intro i hi
  have r := h.rng i hi
  show ((and2 _ _) == false) = false
  have w1 := wr8 r.2.2.2.1
  have w2 := wr8 r.2.2.2.2
  show ((and2 ((S.C (0 + i)).th == (S.C (0 + i)).th) (and2 (IntKind.i64.wrap (S.C (0 + i)).op == (S.C (0 + i)).op) (and2 ((S.C (0 + i)).ky == (S.C (0 + i)).ky) (and2 ((S.C (0 + i)).va == (S.C (0 + i)).va) (and2 (IntKind.i64.wrap (S.C (0 + i)).an == (S.C (0 + i)).an) (and2 ((S.C (0 + i)).gt == (S.C (0 + i)).gt) (and2 ((S.C (0 + i)).fr == (S.C (0 + i)).fr) (and2 ((S.C (0 + i)).pt == (S.C (0 + i)).pt) (and2 ((S.C (0 + i)).to == (S.C (0 + i)).to) true))))))))) == false) = false
  simp only [Nat.zero_add, w1, w2, beq_self_eq_true, and2]
  rfl
theorem fcc (C : Nat → Cl) : fCl (cF C) = C := rfl
theorem fcd (C : Nat → Cl) : fCl (dF C) = C := rfl
theorem stp0 {S : HS} {x : Ac} (h : (x.k.tmod 3 == 0) = true) : hStp S x = hBeg S x := by
  unfold hStp; rw [if_pos (by simpa using h)]
theorem stp1 {S : HS} {x : Ac} (h : (x.k.tmod 3 == 0) = false) (h1 : (x.k.tmod 3 == 1) = true) : hStp S x = hPnt S x := by
  unfold hStp; rw [if_neg (by simpa using h), if_pos (by simpa using h1)]
theorem stp2 {S : HS} {x : Ac} (h : (x.k.tmod 3 == 0) = false) (h1 : (x.k.tmod 3 == 1) = false) : hStp S x = hEnd S x := by
  unfold hStp; rw [if_neg (by simpa using h), if_neg (by simpa using h1)]
theorem hBeg_n (S : HS) (x : Ac) : S.n ≤ (hBeg S x).n ∧ (hBeg S x).n ≤ S.n + 1 := by
  show S.n ≤ onOk _ _ _ ∧ onOk _ _ _ ≤ _
  unfold onOk; split <;> omega
theorem und_ok {S : HS} (h : HInv S) (t : Int) (l : Nat) (last : Int) : (undI S.U t != srch (rundP t S.n l (dF S.C) last) S.n (fun i => Int.ofNat i) (-1)) = false := by
  rw [rund_eq, h.und]; simp
theorem hN_nil {A : Nat → Ac} : ∀ i, (hN A i).n = 0 → (hN A i).U = (fun _ => none) ∧ (hN A i).last = 0
  | 0, _ => ⟨rfl, rfl⟩
  | i + 1, h => by
    have key : (hN A i).n = 0 ∧ (hN A (i + 1)).U = (hN A i).U ∧ (hN A (i + 1)).last = (hN A i).last := by
      show _ ∧ (hStp _ _).U = _ ∧ (hStp _ _).last = _
      have h : (hStp (hN A i) (A (0 + i))).n = 0 := h
      unfold hStp at h ⊢
      split
      · rename_i q
        rw [if_pos q] at h
        have := hBeg_n (hN A i) (A (0 + i))
        have h : onOk _ _ _ = 0 := h
        by_cases he : bgE (hN A i).last (undI (hN A i).U (A (0 + i)).t) (A (0 + i)).t (A (0 + i)).o (A (0 + i)).s = 0
        · rw [onOk_t he] at h; omega
        · rw [onOk_f he] at h
          refine ⟨h, ?_, ?_⟩
          · show onOk _ _ _ = _; rw [onOk_f he]
          · show onOk _ _ _ = _; rw [onOk_f he]
      · rename_i q
        rw [if_neg q] at h
        split
        · rename_i q2
          rw [if_pos q2] at h
          have h : (hN A i).n = 0 := h
          refine ⟨h, rfl, ?_⟩
          show onOk _ _ _ = _
          rw [onOk_f]
          intro e
          have := pt_ok e
          omega
        · rename_i q2
          rw [if_neg q2] at h
          have h : (hN A i).n = 0 := h
          refine ⟨h, ?_, ?_⟩
          · show onOk _ _ _ = _
            rw [onOk_f]
            intro e
            have := en_ok e
            omega
          · show onOk _ _ _ = _
            rw [onOk_f]
            intro e
            have := en_ok e
            omega
    obtain ⟨k1, k2⟩ := hN_nil i key.1
    exact ⟨key.2.1.trans k1, key.2.2.trans k2⟩
theorem hN_inv {A : Nat → Ac} (hA : ∀ i, AOk (A i)) : ∀ i, HInv (hN A i) ∧ (hN A i).n ≤ i
  | 0 => ⟨⟨Int.le_refl 0, fun i hi => absurd hi (Nat.not_lt_zero _), fun i k hi => absurd hi (Nat.not_lt_zero _), fun t => rfl⟩, Nat.le_refl _⟩
  | i + 1 => by
    obtain ⟨h, hn⟩ := hN_inv hA i
    show HInv (hStp _ _) ∧ (hStp _ _).n ≤ i + 1
    unfold hStp
    split
    · have := hBeg_n (hN A i) (A (0 + i)); exact ⟨hBeg_inv h (hA _), by omega⟩
    · split
      · exact ⟨hPnt_inv h (hA _), by show (hN A i).n ≤ _; omega⟩
      · exact ⟨hEnd_inv h (hA _), by show (hN A i).n ≤ _; omega⟩
theorem hOne_eq {S : HS} {x : Ac} (hn : S.n = 0) (hU : S.U = fun _ => none) (hl : S.last = 0) (he : bgE 0 (-1) x.t x.o x.s = 0) : hBeg S x = hOne x := by
  have hu : undI S.U x.t = -1 := by rw [hU]; rfl
  unfold hBeg hOne
  rw [hu, hl, hn, hU]
  simp only [onOk_t he]
  congr 1
theorem hNil_eq {S : HS} {x : Ac} (hn : S.n = 0) (hU : S.U = fun _ => none) (hl : S.last = 0) (he : bgE 0 (-1) x.t x.o x.s ≠ 0) : (hBeg S x).n = 0 := by
  have hu : undI S.U x.t = -1 := by rw [hU]; rfl
  show onOk _ _ _ = 0
  rw [hu, hl, hn, onOk_f he]
theorem rb0 (t o s : Int) : rbE 0 (-1) t o s = bgE 0 (-1) t o s := by
  unfold rbE bgE
  split <;> split <;> (try split) <;> (try split) <;> omega
theorem rp0 (C : Nat → Cl) (c a s : Int) : rpE 0 C c a s = 1 := by
  unfold rpE; exact if_pos (by omega)
theorem re0 (C : Nat → Cl) (l c s : Int) : reE 0 C l c s = 1 := by
  unfold reE; exact if_pos (by omega)
theorem pt0 (C : Nat → Cl) (c a s : Int) : ptE 0 C c a s = 1 := by
  unfold ptE; exact if_pos (by omega)
theorem en0 (C : Nat → Cl) (l c s : Int) : enE 0 C l c s = 1 := by
  unfold enE; exact if_pos (by omega)
theorem hStp_n (S : HS) (x : Ac) : S.n ≤ (hStp S x).n ∧ (hStp S x).n ≤ S.n + 1 := by
  unfold hStp
  split
  · exact hBeg_n S x
  · split
    · exact ⟨Nat.le_refl _, Nat.le_succ _⟩
    · exact ⟨Nat.le_refl _, Nat.le_succ _⟩
theorem hStp_inv {S : HS} (h : HInv S) {x : Ac} (hx : AOk x) : HInv (hStp S x) := by
  unfold hStp
  split
  · exact hBeg_inv h hx
  · split
    · exact hPnt_inv h hx
    · exact hEnd_inv h hx
theorem onOk0 {α : Type} (a b : α) : onOk 0 a b = a := rfl
theorem snoc0 (C : Nat → Cl) (c : Cl) : snocC 0 C c = fun _ => c := by funext i; simp [snocC]
theorem und_end {S : HS} (h : HInv S) {x : Ac} (hx : AOk x) (t : Int) (l : Nat) (last : Int) : (undI (hEnd S x).U t != srch (rundP t S.n l (dF (rnC (enE S.n S.C S.last x.c x.s) S.C x.c x.s)) last) S.n (fun i => Int.ofNat i) (-1)) = false := by
  have := und_ok (hEnd_inv h hx) t l last
  rw [rund_eq] at this ⊢
  rw [srch_congr (q := uP (hEnd S x).C t) (w := fun i => Int.ofNat i) (fun i hi => by unfold uP; rw [rn_eq h _ _ _ i hi]; rfl) (fun _ _ => rfl)]
  exact this
theorem sam_end {S : HS} (h : HInv S) {x : Ac} (hx : AOk x) (f : Nat → Nat → AV) (hf : f = cF (hEnd S x).C) (c1 : Option Nat) : ∀ i, i < S.n → samP S.n S.n S.n S.n c1 none false false f (dF (rnC (enE S.n S.C S.last x.c x.s) S.C x.c x.s)) i = false := by
  intro i hi
  have := sam_ok (hEnd_inv h hx) f hf i hi
  have e : ∀ j, dF (rnC (enE S.n S.C S.last x.c x.s) S.C x.c x.s) (0 + i) j = dF (hEnd S x).C (0 + i) j := fun j => by
    show dR _ j = dR _ j
    rw [Nat.zero_add, rn_eq h _ _ _ i hi]; rfl
  unfold samP at this ⊢
  simp only [e]
  exact this
end Go.Proofs.Ytnecknppajbcdaa
