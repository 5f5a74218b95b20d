/-
  Stacks of free slots: the plain law.
-/
import Derived.Test.YtljeiencnpnbkaaDoorEvHide
set_option linter.unusedSimpArgs false
set_option linter.unusedVariables false
namespace Go.Proofs.YtljeiencnpnbkaaDoor
open Go.Ev
/-! ### heads as words -/
theorem hTag_head {s t : Int} (h0 : 0 ≤ t) (h1 : t < 281474976710656) : hTag (hHead s t) = t := by
  unfold hTag hHead
  rw [Int.emod_eq_of_lt h0 h1]
  split <;> omega
theorem hSlot_head {s t : Int} (h0 : 0 ≤ s) (h1 : s < 256) : hSlot (hHead s t) = s := by
  have hh : hHead s t = s + 1 + t % 281474976710656 * 65536 := by unfold hHead; rw [if_pos ⟨h0, h1⟩]
  unfold hSlot
  rw [hh]
  have : (s + 1 + t % 281474976710656 * 65536) % 65536 = s + 1 := by omega
  rw [this, if_pos (by omega)]; omega
theorem hSlot_none {s t : Int} (h : s < 0) : hSlot (hHead s t) = -1 := by
  have hh : hHead s t = 0 + t % 281474976710656 * 65536 := by unfold hHead; rw [if_neg (by omega)]
  unfold hSlot
  rw [hh]
  have : (0 + t % 281474976710656 * 65536) % 65536 = 0 := by omega
  rw [this]; rfl
theorem hHead_r (s t : Int) : 0 ≤ hHead s t ∧ hHead s t < 18446744073709551616 := by
  unfold hHead
  have a := Int.emod_nonneg t (b := 281474976710656) (by decide)
  have b := Int.emod_lt_of_pos t (b := 281474976710656) (by decide)
  split <;> omega
theorem hSlot_r (w : Int) : -1 ≤ hSlot w ∧ hSlot w < 256 := by unfold hSlot; split <;> omega
theorem hTag_r {w : Int} (h : 0 ≤ w ∧ w < 18446744073709551616) : 0 ≤ hTag w ∧ hTag w < 281474976710656 := by unfold hTag; omega
theorem u64_wrap {x : Int} (h0 : 0 ≤ x) (h1 : x < 18446744073709551616) : IntKind.u64.wrap x = x := by
  show x % 18446744073709551616 = x
  exact Int.emod_eq_of_lt h0 h1
theorem head_ne {s t s' t' : Int} (h0 : 0 ≤ t) (h1 : t < 281474976710656) (h0' : 0 ≤ t') (h1' : t' < 281474976710656) (h : t ≠ t') : hHead s t ≠ hHead s' t' := fun e => by
  have := congrArg hTag e
  rw [hTag_head h0 h1, hTag_head h0' h1'] at this
  exact h this
/-! ### steps keep what they must -/
theorem popS_u {S : MS} {o : PO} (h : U64 S) : U64 (popS S o) := by
  unfold popS
  repeat' split
  · exact h.load _ _ _
  · exact h.load _ _ _
  · exact h.cas _ _ _ _ _ (hHead_r _ _)
  · exact h
theorem pshS_u {S : MS} {o : UO} (h : U64 S) : U64 (pshS S o) := by
  unfold pshS
  repeat' split
  · exact h.load _ _ _
  · exact h.store _ _ _ _ (hHead_r _ _)
  · exact h.cas _ _ _ _ _ (hHead_r _ _)
  · exact h
theorem popY_u {S : MS} {o : PO} (h : U64 S) : U64 (popY S o) := by rw [popY_eq]; exact popS_u h
theorem pshY_u {S : MS} {o : UO} (h : U64 S) : U64 (pshY S o) := by rw [pshY_eq]; exact pshS_u h
structure PoOk (o : PO) : Prop where
  l : Ln3 o.ln
  h : R64 o.h
structure UoOk (o : UO) : Prop where
  l : Ln3 o.ln
  h : R64 o.h
theorem popO_ok {S : MS} {o : PO} (h : U64 S) (ho : PoOk o) : PoOk (popO S o) := by
  obtain ⟨h1, h2⟩ := ho
  unfold popO
  repeat' split
  · exact ⟨.inl rfl, h _⟩
  · exact ⟨.inr (.inr (.inl rfl)), h _⟩
  · exact ⟨.inr (.inr (.inr rfl)), h2⟩
  · exact ⟨.inl rfl, h2⟩
  · exact ⟨.inr (.inl rfl), h2⟩
  · exact ⟨h1, h2⟩
theorem pshO_ok {S : MS} {o : UO} (h : U64 S) (ho : UoOk o) : UoOk (pshO S o) := by
  obtain ⟨h1, h2⟩ := ho
  unfold pshO
  repeat' split
  · exact ⟨.inr (.inr (.inl rfl)), h _⟩
  · exact ⟨.inr (.inr (.inr rfl)), h2⟩
  · exact ⟨.inl rfl, h2⟩
  · exact ⟨.inr (.inl rfl), h2⟩
  · exact ⟨h1, h2⟩
theorem popX_ok {S : MS} {o : PO} (h : U64 S) (ho : PoOk o) : PoOk (popX S o) := by rw [popX_eq]; exact popO_ok h ho
theorem pshX_ok {S : MS} {o : UO} (h : U64 S) (ho : UoOk o) : UoOk (pshX S o) := by rw [pshX_eq]; exact pshO_ok h ho
def po0 : PO := ⟨1, 0, 0, 0, false⟩
theorem po0_ok : PoOk po0 := ⟨.inr (.inl rfl), z0⟩
theorem uo0_ok (s : Int) : UoOk ⟨1, 0, s⟩ := ⟨.inr (.inl rfl), z0⟩
/-! ### three steps of one alone -/
noncomputable def psO1 (S : MS) (s : Int) : UO := pshX S ⟨1, 0, s⟩
noncomputable def psS1 (S : MS) (s : Int) : MS := pshY S ⟨1, 0, s⟩
noncomputable def psO2 (S : MS) (s : Int) : UO := pshX (psS1 S s) (psO1 S s)
noncomputable def psS2 (S : MS) (s : Int) : MS := pshY (psS1 S s) (psO1 S s)
noncomputable def psO3 (S : MS) (s : Int) : UO := pshX (psS2 S s) (psO2 S s)
noncomputable def psS3 (S : MS) (s : Int) : MS := pshY (psS2 S s) (psO2 S s)
noncomputable def ppO1 (S : MS) : PO := popX S ⟨1, 0, 0, 0, false⟩
noncomputable def ppS1 (S : MS) : MS := popY S ⟨1, 0, 0, 0, false⟩
noncomputable def ppO2 (S : MS) : PO := popX (ppS1 S) (ppO1 S)
noncomputable def ppS2 (S : MS) : MS := popY (ppS1 S) (ppO1 S)
noncomputable def ppO3 (S : MS) : PO := popX (ppS2 S) (ppO2 S)
noncomputable def ppS3 (S : MS) : MS := popY (ppS2 S) (ppO2 S)
/-! ### the stack that a memory holds -/
def top : List Int → Int
  | [] => -1
  | s :: _ => s
def links (M : List Int → Option Int) : List Int → Prop
  | [] => True
  | s :: r => mget M (key 9 s 2) = hHead (top r) 0 ∧ links M r
structure SK (S : MS) (l : List Int) (t : Int) : Prop where
  u : U64 S
  hd : mget S.M (key 0 0 0) = hHead (top l) t
  lk : links S.M l
  r : ∀ s ∈ l, 0 ≤ s ∧ s < 256
  nd : l.Nodup
theorem links_of {M M' : List Int → Option Int} : ∀ {l : List Int}, links M l → (∀ s ∈ l, mget M' (key 9 s 2) = mget M (key 9 s 2)) → links M' l
  | [], _, _ => trivial
  | s :: r, ⟨h1, h2⟩, h => ⟨by rw [h s (by simp)]; exact h1, links_of h2 (fun x hx => h x (by simp [hx]))⟩
theorem may0 : mayA 0 0 0 = true := by decide
theorem may9 {s : Int} (h0 : 0 ≤ s) (h1 : s < 256) : mayA 9 s 2 = true := by
  unfold mayA kAt kFl
  exact decide_eq_true ⟨by decide, h0, by simpa using h1, by decide, by decide⟩
theorem casD_t {M : List Int → Option Int} {w : Int} (h : mget M (key 0 0 0) = w) : casD M 0 0 0 w = true := by
  unfold casD; rw [h]; simp [may0]
theorem casD_f {M : List Int → Option Int} {w : Int} (h : mget M (key 0 0 0) ≠ w) : casD M 0 0 0 w = false := by
  unfold casD
  have : (mget M (key 0 0 0) == w) = false := by simpa using h
  rw [this]
theorem top_r {l : List Int} (h : ∀ s ∈ l, 0 ≤ s ∧ s < 256) : (0 ≤ top l ∧ top l < 256) ∨ top l = -1 := by
  cases l with
  | nil => exact .inr rfl
  | cons s r => exact .inl (h s (by simp))
theorem hSlot_top {l : List Int} (h : ∀ s ∈ l, 0 ≤ s ∧ s < 256) (t : Int) : hSlot (hHead (top l) t) = top l := by
  rcases top_r h with h | h
  · exact hSlot_head h.1 h.2
  · rw [h]; exact hSlot_none (by decide)
theorem SK.nil : SK ms0 [] 0 := ⟨U64.nil, rfl, trivial, by simp, by simp⟩
theorem SK.load {S : MS} {l : List Int} {t : Int} (h : SK S l t) (k a f : Int) : SK (mLoad S k a f) l t := ⟨h.u, h.hd, h.lk, h.r, h.nd⟩
/-- A CAS of the head that does. -/
theorem SK.cas {S : MS} {l l' : List Int} {t t' w s : Int} (h : SK S l t) (hw : w = hHead (top l) t) (hs : hHead s t' = hHead (top l') t') (hl : links S.M l') (hr : ∀ s ∈ l', 0 ≤ s ∧ s < 256) (hn : l'.Nodup) : SK (mCas S 0 0 0 w (hHead s t')) l' t' ∧ casD S.M 0 0 0 w = true := by
  have hc : casD S.M 0 0 0 w = true := casD_t (by rw [h.hd, hw])
  have hM : (mCas S 0 0 0 w (hHead s t')).M = memPut S.M 0 0 0 (hHead s t') := by
    show casM S.M 0 0 0 w _ = _
    rw [casM_put, if_pos hc]
  refine ⟨⟨h.u.cas _ _ _ _ _ (hHead_r _ _), ?_, ?_, hr, hn⟩, hc⟩
  · rw [hM, mget_put, if_pos ⟨may0, rfl, rfl, rfl⟩]; exact hs
  · rw [hM]
    refine links_of hl (fun x _ => ?_)
    rw [mget_put, if_neg (fun e => by have := e.2.1; omega)]
theorem SK.casNo {S : MS} {l : List Int} {t w v : Int} (h : SK S l t) (hw : w ≠ hHead (top l) t) (hv : 0 ≤ v ∧ v < 18446744073709551616) : SK (mCas S 0 0 0 w v) l t ∧ casD S.M 0 0 0 w = false := by
  have hc : casD S.M 0 0 0 w = false := casD_f (by rw [h.hd]; exact fun e => hw e.symm)
  have hM : (mCas S 0 0 0 w v).M = S.M := by
    show casM S.M 0 0 0 w _ = _
    rw [casM_put, if_neg (by rw [hc]; decide)]
  exact ⟨⟨h.u.cas _ _ _ _ _ hv, by rw [hM]; exact h.hd, by rw [hM]; exact h.lk, h.r, h.nd⟩, hc⟩
/-- A link of a slot that is not in the list. -/
theorem SK.link {S : MS} {l : List Int} {t s v : Int} (h : SK S l t) (hs : s ∉ l) (hv : 0 ≤ v ∧ v < 18446744073709551616) : SK (mStore S 9 s 2 v) l t := by
  refine ⟨h.u.store _ _ _ _ hv, ?_, ?_, h.r, h.nd⟩
  · show mget (memPut S.M 9 s 2 v) _ = _
    rw [mget_put, if_neg (fun e => by have := e.2.1; omega)]; exact h.hd
  · refine links_of h.lk (fun x hx => ?_)
    show mget (memPut S.M 9 s 2 v) _ = _
    rw [mget_put, if_neg (fun e => hs (by have := e.2.2.1; rw [← this]; exact hx))]
theorem SK.push {S : MS} {l : List Int} {t s : Int} (h : SK S l t) (hs : s ∉ l) (h0 : 0 ≤ s) (h1 : s < 256) (ht0 : 0 ≤ t) (ht : t + 1 < 281474976710656) : SK (psS3 S s) (s :: l) (t + 1) ∧ (psO3 S s).ln = 0 := by
  have e1 : psS1 S s = mLoad S 0 0 0 := pshY_eq _ _
  have eo1 : psO1 S s = ⟨2, hHead (top l) t, s⟩ := by unfold psO1; rw [pshX_eq]; show UO.mk 2 (hd0 S) s = _; unfold hd0; rw [h.hd]
  have e2 : psS2 S s = mStore (mLoad S 0 0 0) 9 s 2 (hHead (top l) 0) := by
    unfold psS2; rw [eo1, e1, pshY_eq]
    show mStore _ 9 s 2 (hHead (hSlot (hHead (top l) t)) 0) = _
    rw [hSlot_top h.r]
  have eo2 : psO2 S s = ⟨3, hHead (top l) t, s⟩ := by unfold psO2; rw [eo1, pshX_eq]; rfl
  have h2 : SK (psS2 S s) l t := by rw [e2]; exact (h.load 0 0 0).link hs (hHead_r _ _)
  have hlk : links (psS2 S s).M (s :: l) := by
    refine ⟨?_, h2.lk⟩
    rw [e2]
    show mget (memPut S.M 9 s 2 _) _ = _
    rw [mget_put, if_pos ⟨may9 h0 h1, rfl, rfl, rfl⟩]
  have hk := h2.cas (w := hHead (top l) t) (s := s) (l' := s :: l) (t' := t + 1) rfl rfl hlk (by intro x hx; simp at hx; rcases hx with rfl | hx; exact ⟨h0, h1⟩; exact h.r x hx) (List.nodup_cons.2 ⟨hs, h.nd⟩)
  have ew : IntKind.u64.wrap (hTag (hHead (top l) t) + 1) = t + 1 := by rw [hTag_head ht0 (by omega)]; exact u64_wrap (by omega) (by omega)
  constructor
  · unfold psS3; rw [eo2, pshY_eq]
    show SK (mCas _ 0 0 0 _ (hHead s (IntKind.u64.wrap _))) _ _
    rw [ew]; exact hk.1
  · unfold psO3; rw [eo2, pshX_eq, pshO_3a hk.2]
theorem psO_lines {S : MS} {l : List Int} {t s : Int} (h : SK S l t) (hs : s ∉ l) (h0 : 0 ≤ s) (h1 : s < 256) (ht0 : 0 ≤ t) (ht : t + 1 < 281474976710656) : ¬ (psO1 S s).ln = 0 ∧ ¬ (psO2 S s).ln = 0 := by
  have eo1 : psO1 S s = ⟨2, hHead (top l) t, s⟩ := by unfold psO1; rw [pshX_eq]; show UO.mk 2 (hd0 S) s = _; unfold hd0; rw [h.hd]
  have eo2 : psO2 S s = ⟨3, hHead (top l) t, s⟩ := by unfold psO2; rw [eo1, pshX_eq]; rfl
  rw [eo1, eo2]; exact ⟨(by show ¬ (2 : Int) = 0; decide), (by show ¬ (3 : Int) = 0; decide)⟩
theorem SK.pop2 {S : MS} {l : List Int} {t s : Int} (h : SK S (s :: l) t) : SK (ppS2 S) (s :: l) t ∧ ppO2 S = ⟨3, hHead s t, top l, 0, false⟩ := by
  have hs := h.r s (by simp)
  have hr : ∀ x ∈ l, 0 ≤ x ∧ x < 256 := fun x hx => h.r x (by simp [hx])
  have hd : mget S.M (key 0 0 0) = hHead s t := h.hd
  have e1 : ppS1 S = mLoad S 0 0 0 := popY_eq _ _
  have eo1 : ppO1 S = ⟨2, hHead s t, 0, 0, false⟩ := by
    unfold ppO1
    rw [popX_eq, popO_1b (by rw [hd, hSlot_head hs.1 hs.2]; omega), hd]
  have e2 : ppS2 S = mLoad (mLoad S 0 0 0) 9 s 2 := by
    unfold ppS2; rw [eo1, e1, popY_eq]
    show mLoad _ 9 (hSlot (hHead s t)) 2 = _
    rw [hSlot_head hs.1 hs.2]
  have eo2 : ppO2 S = ⟨3, hHead s t, top l, 0, false⟩ := by
    unfold ppO2; rw [eo1, popX_eq, e1]
    show PO.mk 3 _ (hSlot (mget S.M (key 9 (hSlot (hHead s t)) 2))) 0 false = _
    rw [hSlot_head hs.1 hs.2, h.lk.1, hSlot_top hr]
  exact ⟨by rw [e2]; exact (h.load 0 0 0).load 9 s 2, eo2⟩
theorem SK.pop {S : MS} {l : List Int} {t s : Int} (h : SK S (s :: l) t) (ht0 : 0 ≤ t) (ht : t + 1 < 281474976710656) : SK (ppS3 S) l (t + 1) ∧ ppO3 S = ⟨0, hHead s t, top l, s, true⟩ := by
  have hs := h.r s (by simp)
  have hr : ∀ x ∈ l, 0 ≤ x ∧ x < 256 := fun x hx => h.r x (by simp [hx])
  obtain ⟨h2, eo2⟩ := h.pop2
  have hk := h2.cas (w := hHead s t) (s := top l) (l' := l) (t' := t + 1) rfl rfl h2.lk.2 hr (List.nodup_cons.1 h.nd).2
  have ew : IntKind.u64.wrap (hTag (hHead s t) + 1) = t + 1 := by rw [hTag_head ht0 (by omega)]; exact u64_wrap (by omega) (by omega)
  constructor
  · unfold ppS3; rw [eo2, popY_eq]
    show SK (mCas _ 0 0 0 _ (hHead (top l) (IntKind.u64.wrap _))) _ _
    rw [ew]; exact hk.1
  · unfold ppO3; rw [eo2, popX_eq, popO_3a hk.2, hSlot_head hs.1 hs.2]
end Go.Proofs.YtljeiencnpnbkaaDoor
