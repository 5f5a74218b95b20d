/-
  Histories as such: the order of their calls.
-/
import Derived.Test.YtnecknppajbcdaaHLaw
set_option linter.unusedSimpArgs false
set_option linter.unusedVariables false
namespace Go.Proofs.Ytnecknppajbcdaa
open Go.Ev
def ClOk (last : Int) (c : Cl) : Prop :=
  (0 ≤ c.fr ∧ c.fr ≤ last ∧ c.pt ≤ last ∧ c.to ≤ last) ∧ (c.pt = -1 ∨ c.fr ≤ c.pt) ∧ (c.to = -1 ∨ (c.fr ≤ c.to ∧ c.pt ≤ c.to)) ∧ (c.an = 3 ↔ (c.to ≠ -1 ∧ c.pt = -1)) ∧ ((c.an = 1 ∨ c.an = 2) ↔ c.pt ≠ -1)
structure HIn2 (S : HS) : Prop where
  inv : HInv S
  ok : ∀ i, i < S.n → ClOk S.last (S.C i)
  mono : ∀ i k, i < k → k < S.n → (S.C i).fr ≤ (S.C k).fr
  ord : ∀ i k, i < k → k < S.n → (S.C i).th = (S.C k).th → (S.C i).to ≠ -1 ∧ (S.C i).to ≤ (S.C k).fr
theorem ClOk.mono {a b : Int} {c : Cl} (h : ClOk a c) (hab : a ≤ b) : ClOk b c := ⟨by have := h.1; omega, h.2⟩
theorem in2_congr {S T : HS} (h : HIn2 S) (hT : HInv T) (hn : T.n = S.n) (hC : ∀ i, i < S.n → T.C i = S.C i) (hl : T.last = S.last) : HIn2 T := by
  refine ⟨hT, fun i hi => ?_, fun i k hik hk => ?_, fun i k hik hk ht => ?_⟩
  · rw [hn] at hi; rw [hC i hi, hl]; exact h.ok i hi
  · rw [hn] at hk; rw [hC i (by omega), hC k hk]; exact h.mono i k hik hk
  · rw [hn] at hk; rw [hC i (by omega), hC k hk] at *; exact h.ord i k hik hk ht
theorem in2_beg {S : HS} (h : HIn2 S) {x : Ac} (hx : AOk x) : HIn2 (hBeg S x) := by
  have hC : ∀ i, i < S.n → snocC S.n S.C (mkCl x.t x.o x.ky x.va x.s) i = S.C i := fun i hi => by simp [snocC, hi]
  have hCn : snocC S.n S.C (mkCl x.t x.o x.ky x.va x.s) S.n = mkCl x.t x.o x.ky x.va x.s := by simp [snocC]
  have hI := hBeg_inv h.inv hx
  by_cases he : bgE S.last (undI S.U x.t) x.t x.o x.s = 0
  · obtain ⟨h1, h2, h3, h4, h5⟩ := bg_ok he
    have hl := h.inv.last
    rw [h.inv.und] at h5
    have hno := srch_none_iff h5
    have eq : hBeg S x = ⟨S.n + 1, snocC S.n S.C (mkCl x.t x.o x.ky x.va x.s), setKey S.U [x.t] (some (Int.ofNat S.n)), x.s⟩ := by unfold hBeg; simp only [onOk_t he]
    rw [eq] at hI ⊢
    refine ⟨hI, fun i (hi : i < S.n + 1) => ?_, fun i k hik (hk : k < S.n + 1) => ?_, fun i k hik (hk : k < S.n + 1) ht => ?_⟩
    · show ClOk x.s (snocC S.n S.C (mkCl x.t x.o x.ky x.va x.s) i)
      by_cases e : i = S.n
      · subst e; rw [hCn]
        refine ⟨?_, .inl rfl, .inl rfl, ?_, ?_⟩ <;> simp only [mkCl] <;> omega
      · rw [hC i (by omega)]; exact (h.ok i (by omega)).mono h4
    · show (snocC S.n S.C (mkCl x.t x.o x.ky x.va x.s) i).fr ≤ (snocC S.n S.C (mkCl x.t x.o x.ky x.va x.s) k).fr
      by_cases e : k = S.n
      · subst e; rw [hCn, hC i hik]
        have := (h.ok i hik).1
        show (S.C i).fr ≤ x.s; omega
      · rw [hC i (by omega), hC k (by omega)]; exact h.mono i k hik (by omega)
    · show (snocC S.n S.C (mkCl x.t x.o x.ky x.va x.s) i).to ≠ -1 ∧ (snocC S.n S.C (mkCl x.t x.o x.ky x.va x.s) i).to ≤ (snocC S.n S.C (mkCl x.t x.o x.ky x.va x.s) k).fr
      have ht : (snocC S.n S.C (mkCl x.t x.o x.ky x.va x.s) i).th = (snocC S.n S.C (mkCl x.t x.o x.ky x.va x.s) k).th := ht
      by_cases e : k = S.n
      · subst e; rw [hCn, hC i hik] at *
        have := (h.ok i hik).1
        have h7 := uP_no.1 (hno i hik)
        have : ¬ (S.C i).to < 0 := fun q => h7 ⟨ht, q⟩
        refine ⟨by omega, ?_⟩
        show (S.C i).to ≤ x.s; omega
      · rw [hC i (by omega), hC k (by omega)] at *; exact h.ord i k hik (by omega) ht
  · exact in2_congr h hI (by show onOk _ _ _ = _; rw [onOk_f he]) hC (by show onOk _ _ _ = _; rw [onOk_f he])
theorem in2_pnt {S : HS} (h : HIn2 S) {x : Ac} (hx : AOk x) : HIn2 (hPnt S x) := by
  have hI := hPnt_inv h.inv hx
  by_cases he : ptE S.n S.C x.c x.a x.s = 0
  · obtain ⟨b1, b2, b3, b4, b5⟩ := pt_ok he
    have hC : ∀ i, (hPnt S x).C i = if i = x.c.toNat then ⟨(S.C i).th, (S.C i).op, (S.C i).ky, (S.C i).va, x.a, x.va, (S.C i).fr, x.s, (S.C i).to⟩ else S.C i := fun i => by
      show ptC _ S.C x.c x.a x.va x.s i = _
      unfold ptC; rw [he]; simp
    have hl : (hPnt S x).last = if x.s > S.last then x.s else S.last := by show onOk _ _ _ = _; rw [onOk_t he]
    have hfr : ∀ i, ((hPnt S x).C i).fr = (S.C i).fr ∧ ((hPnt S x).C i).th = (S.C i).th ∧ ((hPnt S x).C i).to = (S.C i).to := fun i => by
      rw [hC]; split <;> exact ⟨rfl, rfl, rfl⟩
    refine ⟨hI, fun i hi => ?_, fun i k hik hk => ?_, fun i k hik hk ht => ?_⟩
    · rw [hC, hl]
      have o := h.ok i hi
      by_cases e : i = x.c.toNat
      · rw [if_pos e]
        subst e
        obtain ⟨o1, o2, o3, o4, o5⟩ := o
        refine ⟨?_, .inr b3, .inl b5, ?_, ?_⟩
        · show 0 ≤ (S.C x.c.toNat).fr ∧ (S.C x.c.toNat).fr ≤ _ ∧ x.s ≤ _ ∧ (S.C x.c.toNat).to ≤ _
          split <;> omega
        · show x.a = 3 ↔ ((S.C x.c.toNat).to ≠ -1 ∧ x.s = -1)
          omega
        · show (x.a = 1 ∨ x.a = 2) ↔ x.s ≠ -1
          omega
      · rw [if_neg e]; exact o.mono (by split <;> omega)
    · rw [(hfr i).1, (hfr k).1]; exact h.mono i k hik hk
    · rw [(hfr i).2.1, (hfr k).2.1] at ht
      rw [(hfr i).2.2, (hfr k).1]; exact h.ord i k hik hk ht
  · exact in2_congr h hI rfl (fun i _ => by show ptC _ S.C x.c x.a x.va x.s i = _; unfold ptC; rw [if_neg (fun q => he q.1)]) (by show onOk _ _ _ = _; rw [onOk_f he])
theorem in2_end {S : HS} (h : HIn2 S) {x : Ac} (hx : AOk x) : HIn2 (hEnd S x) := by
  have hI := hEnd_inv h.inv hx
  by_cases he : enE S.n S.C S.last x.c x.s = 0
  · obtain ⟨b1, b2, b3, b4⟩ := en_ok he
    have hl0 := h.inv.last
    have hC : ∀ i, (hEnd S x).C i = if i = x.c.toNat then ⟨(S.C i).th, (S.C i).op, (S.C i).ky, (S.C i).va, (if (S.C i).pt = -1 then 3 else (S.C i).an), (S.C i).gt, (S.C i).fr, (S.C i).pt, x.s⟩ else S.C i := fun i => by
      show enC _ S.C x.c x.s i = _
      unfold enC; rw [he]; simp
    have hl : (hEnd S x).last = x.s := by show onOk _ _ _ = _; rw [onOk_t he]
    have hfr : ∀ i, ((hEnd S x).C i).fr = (S.C i).fr ∧ ((hEnd S x).C i).th = (S.C i).th := fun i => by
      rw [hC]; split <;> exact ⟨rfl, rfl⟩
    refine ⟨hI, fun i hi => ?_, fun i k hik hk => ?_, fun i k hik hk ht => ?_⟩
    · rw [hC, hl]
      have o := h.ok i hi
      by_cases e : i = x.c.toNat
      · rw [if_pos e]
        subst e
        obtain ⟨o1, o2, o3, o4, o5⟩ := o
        refine ⟨?_, o2, .inr ?_, ?_, ?_⟩
        · show 0 ≤ (S.C x.c.toNat).fr ∧ (S.C x.c.toNat).fr ≤ _ ∧ (S.C x.c.toNat).pt ≤ _ ∧ x.s ≤ _
          omega
        · show (S.C x.c.toNat).fr ≤ x.s ∧ (S.C x.c.toNat).pt ≤ x.s
          omega
        · show (if (S.C x.c.toNat).pt = -1 then (3 : Int) else (S.C x.c.toNat).an) = 3 ↔ (x.s ≠ -1 ∧ (S.C x.c.toNat).pt = -1)
          split <;> omega
        · show ((if (S.C x.c.toNat).pt = -1 then (3 : Int) else (S.C x.c.toNat).an) = 1 ∨ (if (S.C x.c.toNat).pt = -1 then (3 : Int) else (S.C x.c.toNat).an) = 2) ↔ (S.C x.c.toNat).pt ≠ -1
          split <;> omega
      · rw [if_neg e]; exact o.mono b3
    · rw [(hfr i).1, (hfr k).1]; exact h.mono i k hik hk
    · rw [(hfr i).2, (hfr k).2] at ht
      have := h.ord i k hik hk ht
      rw [(hfr k).1]
      by_cases e : i = x.c.toNat
      · subst e; exact (this.1 b4).elim
      · rw [hC, if_neg e]; exact this
  · refine in2_congr h hI rfl (fun i _ => by show enC _ S.C x.c x.s i = _; unfold enC; rw [if_neg (fun q => he q.1)]) (by show onOk _ _ _ = _; rw [onOk_f he])
theorem in2_stp {S : HS} (h : HIn2 S) {x : Ac} (hx : AOk x) : HIn2 (hStp S x) := by
  unfold hStp
  split
  · exact in2_beg h hx
  · split
    · exact in2_pnt h hx
    · exact in2_end h hx
theorem hN_in2 {A : Nat → Ac} (hA : ∀ i, AOk (A i)) : ∀ i, HIn2 (hN A i)
  | 0 => ⟨(hN_inv hA 0).1, fun i hi => absurd hi (Nat.not_lt_zero _), fun i k _ hk => absurd hk (Nat.not_lt_zero _), fun i k _ hk => absurd hk (Nat.not_lt_zero _)⟩
  | i + 1 => in2_stp (hN_in2 hA i) (hA _)
end Go.Proofs.Ytnecknppajbcdaa
