/-
  Orphans: the stack that a memory holds: the plain law.
-/
import Derived.Test.YtmndhjodbnojdaaDoorJOoDef
set_option linter.unusedSimpArgs false
set_option linter.unusedVariables false
namespace Go.Proofs.YtmndhjodbnojdaaDoor
open Go.Ev
/-! ### orphans: the stack that a memory holds -/
theorem oTag_head {s t : Int} (h0 : 0 ≤ t) (h1 : t < 281474976710656) : hTag (hHead s t) = t := by
  unfold hTag hHead
  rw [Int.emod_eq_of_lt h0 h1]
  split <;> omega
theorem oSlot_head {s t : Int} (h0 : 0 ≤ s) (h1 : s < 256) : hSlot (hHead s t) = s := by
  have hh : hHead s t = s + 1 + t % 281474976710656 * 65536 := by unfold hHead; rw [if_pos ⟨h0, h1⟩]
  unfold hSlot
  rw [hh]
  have : (s + 1 + t % 281474976710656 * 65536) % 65536 = s + 1 := by omega
  rw [this, if_pos (by omega)]; omega
theorem oSlot_none {s t : Int} (h : s < 0) : hSlot (hHead s t) = -1 := by
  have hh : hHead s t = 0 + t % 281474976710656 * 65536 := by unfold hHead; rw [if_neg (by omega)]
  unfold hSlot
  rw [hh]
  have : (0 + t % 281474976710656 * 65536) % 65536 = 0 := by omega
  rw [this]; rfl
theorem oU64 {x : Int} (h0 : 0 ≤ x) (h1 : x < 18446744073709551616) : IntKind.u64.wrap x = x := by
  show x % 18446744073709551616 = x
  exact Int.emod_eq_of_lt h0 h1
def oTop : List Int → Int
  | [] => -1
  | s :: _ => s
def oLinks (M : List Int → Option Int) : List Int → Prop
  | [] => True
  | s :: r => mget M (key 9 s 2) = hHead (oTop r) 0 ∧ oLinks M r
structure SO (S : MS) (l : List Int) (t : Int) : Prop where
  u : U64 S
  hd : mget S.M (key 4 0 0) = hHead (oTop l) t
  lk : oLinks S.M l
  r : ∀ s ∈ l, 0 ≤ s ∧ s < 256
  nd : l.Nodup
theorem oLinks_of {M M' : List Int → Option Int} : ∀ {l : List Int}, oLinks M l → (∀ s ∈ l, mget M' (key 9 s 2) = mget M (key 9 s 2)) → oLinks M' l
  | [], _, _ => trivial
  | s :: r, ⟨h1, h2⟩, h => ⟨by rw [h s (by simp)]; exact h1, oLinks_of h2 (fun x hx => h x (by simp [hx]))⟩
theorem may4 : mayA 4 0 0 = true := by decide
theorem mayO {s f : Int} (h0 : 0 ≤ s) (h1 : s < 256) (f0 : 0 ≤ f) (f1 : f < 8) : mayA 9 s f = true := by
  unfold mayA kAt kFl
  exact decide_eq_true ⟨by decide, h0, by simpa using h1, f0, by simpa using f1⟩
theorem oput_ne {M : List Int → Option Int} {k a f v k' a' f' : Int} (h : ¬ (k' = k ∧ a' = a ∧ f' = f)) : mget (memPut M k a f v) (key k' a' f') = mget M (key k' a' f') := by
  rw [mget_put, if_neg (fun e => h e.2)]
theorem oput_eq {M : List Int → Option Int} {k a f v : Int} (h : mayA k a f = true) : mget (memPut M k a f v) (key k a f) = v := by
  rw [mget_put, if_pos ⟨h, rfl, rfl, rfl⟩]
theorem oSlot_top {l : List Int} (h : ∀ s ∈ l, 0 ≤ s ∧ s < 256) (t : Int) : hSlot (hHead (oTop l) t) = oTop l := by
  cases l with
  | nil => exact oSlot_none (by decide)
  | cons s r => exact oSlot_head (h s (by simp)).1 (h s (by simp)).2
theorem SO.nil : SO ms0 [] 0 := ⟨U64.nil, rfl, trivial, by simp, by simp⟩
theorem SO.load {S : MS} {l : List Int} {t : Int} (h : SO S l t) (k a f : Int) : SO (mLoad S k a f) l t := ⟨h.u, h.hd, h.lk, h.r, h.nd⟩
theorem casD_o {M : List Int → Option Int} {w : Int} (h : mget M (key 4 0 0) = w) : casD M 4 0 0 w = true := by
  unfold casD; rw [h]; simp [may4]
theorem SO.store {S : MS} {l : List Int} {t a f v : Int} (h : SO S l t) (hne : ∀ s ∈ l, ¬ (s = a ∧ f = 2)) (hv : 0 ≤ v ∧ v < 18446744073709551616) : SO (mStore S 9 a f v) l t := by
  refine ⟨h.u.store _ _ _ _ hv, ?_, ?_, h.r, h.nd⟩
  · show mget (memPut S.M 9 a f v) _ = _
    rw [oput_ne (by omega)]; exact h.hd
  · refine oLinks_of h.lk (fun x hx => ?_)
    show mget (memPut S.M 9 a f v) _ = _
    rw [oput_ne (fun e => hne x hx ⟨e.2.1, e.2.2.symm⟩)]
theorem SO.cas {S : MS} {l l' : List Int} {t t' s : Int} (h : SO S l t) (hs : hHead s t' = hHead (oTop l') t') (hl : oLinks S.M l') (hr : ∀ s ∈ l', 0 ≤ s ∧ s < 256) (hn : l'.Nodup) : SO (mCas S 4 0 0 (hHead (oTop l) t) (hHead s t')) l' t' ∧ casD S.M 4 0 0 (hHead (oTop l) t) = true ∧ ∀ k a f, ¬ k = 4 → mget (mCas S 4 0 0 (hHead (oTop l) t) (hHead s t')).M (key k a f) = mget S.M (key k a f) := by
  have hc : casD S.M 4 0 0 (hHead (oTop l) t) = true := casD_o h.hd
  have hM : (mCas S 4 0 0 (hHead (oTop l) t) (hHead s t')).M = memPut S.M 4 0 0 (hHead s t') := by
    show casM S.M 4 0 0 _ _ = _
    rw [casM_put, if_pos hc]
  refine ⟨⟨h.u.cas _ _ _ _ _ (hHead_r' _ _), ?_, ?_, hr, hn⟩, hc, fun k a f hk => by rw [hM, oput_ne (fun e => hk e.1)]⟩
  · rw [hM, oput_eq may4]; exact hs
  · rw [hM]
    exact oLinks_of hl (fun x _ => by rw [oput_ne (by omega)])
/-! ### a Give by one alone -/
theorem kl_links {M : List Int → Option Int} {kl l : List Int} : ∀ (j : Nat), (∀ i, j ≤ i → (h : i + 1 < kl.length) → mget M (key 9 (kl[i]'(by omega)) 2) = hHead kl[i + 1] 0) → ((h : 0 < kl.length) → mget M (key 9 (kl[kl.length - 1]'(by omega)) 2) = hHead (oTop l) 0) → oLinks M l → oLinks M (kl.drop j ++ l) := by
  intro j h1 h2 h3
  by_cases hj : j < kl.length
  · rw [List.drop_eq_getElem_cons hj]
    refine ⟨?_, kl_links (j + 1) (fun i hi h => h1 i (by omega) h) h2 h3⟩
    by_cases hj2 : j + 1 < kl.length
    · rw [h1 j (Nat.le_refl _) hj2, List.drop_eq_getElem_cons hj2]; rfl
    · have e : j = kl.length - 1 := by omega
      rw [List.drop_eq_nil_of_le (by omega)]
      have := h2 (by omega)
      simp only [← e] at this
      rw [this]; rfl
  · rw [List.drop_eq_nil_of_le (by omega)]; exact h3
termination_by j => kl.length - j
structure GvIs (n : Nat) (K : Nat → Int) (S : MS) (kl l : List Int) (t : Int) : Prop where
  no : GvNo n K S
  b : gvnB n K S = true
  so : SO (gvnY n K S) (kl ++ l) (t + 1)
  fr : ∀ k a f, ¬ k = 4 → ¬ (k = 9 ∧ f = 2) → mget (gvnY n K S).M (key k a f) = mget S.M (key k a f)
section
variable {n : Nat} {K : Nat → Int} {S : MS} {kl l : List Int} {t : Int} (h : SO S l t) (hn : kl.length = n) (hK : ∀ j (hj : j < kl.length), K j = kl[j]) (hn0 : 0 < n) (hn1 : n ≤ 1000) (hnd : (kl ++ l).Nodup) (hr : ∀ s ∈ kl, 0 ≤ s ∧ s < 256) (ht0 : 0 ≤ t) (ht : t + 1 < 281474976710656)
include h hn hK hn0 hn1 hnd hr
theorem gv_link : ∀ i, i ≤ n - 1 → (gvIt n K S i).o = ⟨if i = n - 1 then 2 else 1, 0, i⟩ ∧ SO (gvIt n K S i).S l t ∧ (∀ k a f, ¬ k = 4 → ¬ (k = 9 ∧ f = 2) → mget (gvIt n K S i).S.M (key k a f) = mget S.M (key k a f)) ∧ (∀ j (hj : j + 1 < kl.length), j < i → mget (gvIt n K S i).S.M (key 9 kl[j] 2) = hHead kl[j + 1] 0)
  | 0, _ => by
    refine ⟨?_, h, fun _ _ _ _ _ => rfl, fun j hj hi => absurd hi (Nat.not_lt_zero j)⟩
    show GO.mk (ngL n) 0 0 = _
    unfold ngL
    by_cases c : n = 1
    · rw [if_pos c, if_pos (by omega)]; rfl
    · rw [if_neg c, if_neg (by omega)]; rfl
  | i + 1, hi => by
    obtain ⟨h1, h2, h3, h4⟩ := gv_link i (by omega)
    rw [if_neg (by omega)] at h1
    have hi1 : i + 1 < kl.length := by omega
    have ew : IntKind.i64.wrap ((i : Int) + 1) = ((i + 1 : Nat) : Int) := by rw [i64w (by omega) (by omega)]; omega
    have en : IntKind.i64.wrap (Int.ofNat n - 1) = ((n - 1 : Nat) : Int) := by rw [i64w (by simp; omega) (by simp; omega)]; simp; omega
    have eS : (gvIt n K S (i + 1)).S = mStore (gvIt n K S i).S 9 kl[i] 2 (hHead kl[i + 1] 0) := by
      show gvY _ _ _ _ = _
      rw [h1, gvY_eq]
      show mStore _ 9 (K (0 + ((i : Nat) : Int).toNat)) 2 (hHead (K (0 + (IntKind.i64.wrap ((i : Int) + 1)).toNat)) 0) = _
      rw [ew, Int.toNat_natCast, Int.toNat_natCast, Nat.zero_add, Nat.zero_add, hK i (by omega), hK (i + 1) hi1]
    have hnl : kl[i] ∉ l := fun hm => (List.nodup_append.1 hnd).2.2 _ (List.getElem_mem (by omega)) _ hm rfl
    refine ⟨?_, ?_, ?_, ?_⟩
    · show gvX _ _ _ _ = _
      rw [h1, gvX_eq]
      by_cases c : i + 1 = n - 1
      · rw [gvO_1a (by rw [ew, en, c]), if_pos c, ew]
      · rw [gvO_1b (by rw [ew, en]; omega), if_neg c, ew]
    · rw [eS]; exact h2.store (fun s hs e => hnl (by rw [← e.1]; exact hs)) (hHead_r' _ _)
    · intro k a f hk h9
      rw [eS]
      show mget (memPut _ 9 kl[i] 2 _) _ = _
      rw [oput_ne (fun e => h9 ⟨e.1, e.2.2⟩)]; exact h3 k a f hk h9
    · intro j hj hji
      rw [eS]
      show mget (memPut _ 9 kl[i] 2 _) _ = _
      by_cases c : j = i
      · subst c
        have := hr _ (List.getElem_mem (show j < kl.length by omega))
        rw [oput_eq (mayO this.1 this.2 (by decide) (by decide))]
      · have hne : ¬ kl[j] = kl[i] := fun e => c ((List.getElem_inj (List.nodup_append.1 hnd).1).1 e)
        rw [oput_ne (fun e => hne e.2.1)]; exact h4 j hj (by omega)
include ht0 ht
theorem gv_is : GvIs n K S kl l t := by
  obtain ⟨h1, h2, h3, h4⟩ := gv_link h hn hK hn0 hn1 hnd hr (n - 1) (Nat.le_refl _)
  rw [if_pos rfl] at h1
  have e0 : n - 1 + 1 = n := by omega
  have eo1 : (gvIt n K S n).o = ⟨3, hHead (oTop l) t, ((n - 1 : Nat) : Int)⟩ := by
    have : gvIt n K S n = gvIt n K S (n - 1 + 1) := by rw [e0]
    rw [this]
    show gvX _ _ _ _ = _
    rw [h1, gvX_eq]
    show GO.mk 3 (oHd _) _ = _
    unfold oHd; rw [h2.hd]
  have eS1 : (gvIt n K S n).S = mLoad (gvIt n K S (n - 1)).S 4 0 0 := by
    have : gvIt n K S n = gvIt n K S (n - 1 + 1) := by rw [e0]
    rw [this]
    show gvY _ _ _ _ = _
    rw [h1, gvY_eq]; rfl
  have hlast : kl.length - 1 < kl.length := by omega
  have en : IntKind.i64.wrap (Int.ofNat n - 1) = ((n - 1 : Nat) : Int) := by rw [i64w (by simp; omega) (by simp; omega)]; simp; omega
  have eKl : K (0 + (IntKind.i64.wrap (Int.ofNat n - 1)).toNat) = kl[kl.length - 1] := by
    rw [en, Int.toNat_natCast, Nat.zero_add]
    have : n - 1 = kl.length - 1 := by omega
    rw [this]; exact hK _ hlast
  have eo2 : (gvIt n K S (n + 1)).o = ⟨4, hHead (oTop l) t, ((n - 1 : Nat) : Int)⟩ := by
    show gvX _ _ _ _ = _
    rw [eo1, gvX_eq]; rfl
  have eS2 : (gvIt n K S (n + 1)).S = mStore (mLoad (gvIt n K S (n - 1)).S 4 0 0) 9 kl[kl.length - 1] 2 (hHead (oTop l) 0) := by
    show gvY _ _ _ _ = _
    rw [eo1, gvY_eq, eS1]
    show mStore _ 9 (K (0 + (IntKind.i64.wrap (Int.ofNat n - 1)).toNat)) 2 (hHead (hSlot (hHead (oTop l) t)) 0) = _
    rw [eKl, oSlot_top h.r]
  have hnl : kl[kl.length - 1] ∉ l := fun hm => (List.nodup_append.1 hnd).2.2 _ (List.getElem_mem hlast) _ hm rfl
  have so2 : SO (gvIt n K S (n + 1)).S l t := by
    rw [eS2]; exact (h2.load 4 0 0).store (fun s hs e => hnl (by rw [← e.1]; exact hs)) (hHead_r' _ _)
  have hlr := hr _ (List.getElem_mem hlast)
  have hlk : oLinks (gvIt n K S (n + 1)).S.M (kl.drop 0 ++ l) := by
    refine kl_links 0 (fun i _ hi => ?_) (fun _ => ?_) so2.lk
    · rw [eS2]
      show mget (memPut _ 9 kl[kl.length - 1] 2 _) _ = _
      have hne : ¬ kl[i] = kl[kl.length - 1] := fun e => by have := (List.getElem_inj (List.nodup_append.1 hnd).1).1 e; omega
      rw [oput_ne (fun e => hne e.2.1)]
      exact h4 i hi (by omega)
    · rw [eS2]
      show mget (memPut _ 9 kl[kl.length - 1] 2 _) _ = _
      rw [oput_eq (mayO hlr.1 hlr.2 (by decide) (by decide))]
  rw [List.drop_zero] at hlk
  have hK0 : K (0 + 0) = kl[0]'(by omega) := hK 0 (by omega)
  have ew : IntKind.u64.wrap (hTag (hHead (oTop l) t) + 1) = t + 1 := by rw [oTag_head ht0 (by omega)]; exact oU64 (by omega) (by omega)
  have htop : hHead (kl[0]'(by omega)) (t + 1) = hHead (oTop (kl ++ l)) (t + 1) := by
    cases kl with
    | nil => simp at hn; omega
    | cons a r => rfl
  have hc := so2.cas (s := kl[0]'(by omega)) (l' := kl ++ l) (t' := t + 1) htop hlk (fun s hs => by rcases List.mem_append.1 hs with c | c; exact hr s c; exact h.r s c) hnd
  have eS3 : (gvIt n K S (n + 2)).S = mCas (gvIt n K S (n + 1)).S 4 0 0 (hHead (oTop l) t) (hHead (kl[0]'(by omega)) (t + 1)) := by
    show gvY _ _ _ _ = _
    rw [eo2, gvY_eq]
    show mCas _ 4 0 0 (hHead (oTop l) t) (hHead (K (0 + 0)) (IntKind.u64.wrap (hTag (hHead (oTop l) t) + 1))) = _
    rw [hK0, ew]
  have eo3 : (gvIt n K S (n + 2)).o = ⟨0, hHead (oTop l) t, ((n - 1 : Nat) : Int)⟩ := by
    show gvX _ _ _ _ = _
    rw [eo2, gvX_eq, gvO_4a hc.2.1]
  refine ⟨fun i i1 i2 => ?_, ?_, ?_, ?_⟩
  · by_cases c : i ≤ n - 1
    · rw [(gv_link h hn hK hn0 hn1 hnd hr i c).1]
      show ¬ (if i = n - 1 then (2 : Int) else 1) = 0
      split <;> decide
    · by_cases d : i = n
      · subst d; rw [eo1]; show ¬ (3 : Int) = 0; decide
      · have : i = n + 1 := by omega
        subst this; rw [eo2]; show ¬ (4 : Int) = 0; decide
  · rw [gvnB_eq, eo3]; rfl
  · rw [gvnY_eq, eS3]; exact hc.1
  · intro k a f hk h9
    rw [gvnY_eq, eS3, hc.2.2 k a f hk, eS2]
    show mget (memPut (gvIt n K S (n - 1)).S.M 9 _ 2 _) _ = _
    rw [oput_ne (fun e => h9 ⟨e.1, e.2.2⟩)]; exact h3 k a f hk h9
end
/-! ### a Take by one alone -/
def eAt (M : List Int → Option Int) (s : Int) : Enty := ⟨s, hdrG (mget M (key 9 s 0)), false, mget M (key 9 s 1), mget M (key 9 s 3), mget M (key 9 s 4)⟩
structure TkIs (S : MS) (l : List Int) (t : Int) : Prop where
  all : TkAll l.length S
  so : SO (tknY l.length S) [] (t + 1)
  e : ∀ j (hj : j < l.length), tknE l.length S j = eAt S.M l[j]
  fr : ∀ k a f, ¬ k = 4 → mget (tknY l.length S).M (key k a f) = mget S.M (key k a f)
section
variable {S : MS} {l : List Int} {t : Int} (h : SO S l t) (hl0 : 0 < l.length) (hl : l.length ≤ 256) (ht0 : 0 ≤ t) (ht : t + 1 < 281474976710656)
include h hl0 ht0 ht
theorem tk_two : (tkIt S 1).o = ⟨2, hHead (oTop l) t, 0, y0⟩ ∧ (tkIt S 2).o = ⟨3, hHead (oTop l) t, oTop l, y0⟩ ∧ (tkIt S 2).n = 0 ∧ SO (tkIt S 2).S [] (t + 1) ∧ ∀ k a f, ¬ k = 4 → mget (tkIt S 2).S.M (key k a f) = mget S.M (key k a f) := by
  have hs : 0 ≤ oTop l ∧ oTop l < 256 := by
    cases l with
    | nil => simp at hl0
    | cons s r => exact h.r s (by simp)
  have hsl := oSlot_top h.r t
  have eo1 : (tkIt S 1).o = ⟨2, hHead (oTop l) t, 0, y0⟩ := by
    show teX _ _ _ = _
    rw [teX_eq]
    show teO 0 S ⟨1, 0, 0, y0⟩ = _
    rw [teO_1b (by rw [h.hd, hsl]; omega), h.hd]
  have eS1 : (tkIt S 1).S = mLoad S 4 0 0 := by
    show teY _ _ = _
    rw [teY_eq]; rfl
  have en1 : (tkIt S 1).n = 0 := by show teNX _ _ = _; rw [teNX_eq]; rfl
  have ew : IntKind.u64.wrap (hTag (hHead (oTop l) t) + 1) = t + 1 := by rw [oTag_head ht0 (by omega)]; exact oU64 (by omega) (by omega)
  have hc := (h.load 4 0 0).cas (s := -1) (l' := []) (t' := t + 1) rfl trivial (by simp) (by simp)
  refine ⟨eo1, ?_, ?_, ?_, ?_⟩
  · show teX _ _ _ = _
    rw [teX_eq, eo1, eS1, teO_2a hc.2.1, hsl]
  · show teNX _ _ = _; rw [teNX_eq, eo1, en1]; rfl
  · show SO (teY _ _) _ _
    rw [teY_eq, eo1, eS1]
    show SO (mCas _ 4 0 0 _ (hHead (-1) (IntKind.u64.wrap (hTag (hHead (oTop l) t) + 1)))) _ _
    rw [ew]; exact hc.1
  · intro k a f hk
    show mget (teY _ _).M _ = _
    rw [teY_eq, eo1, eS1]
    show mget (mCas (mLoad S 4 0 0) 4 0 0 _ (hHead (-1) (IntKind.u64.wrap (hTag (hHead (oTop l) t) + 1)))).M _ = _
    rw [ew]; exact hc.2.2 k a f hk
end
/-- Five steps at one slot. -/
structure Tk5 (x : TI) (y : TI) (s nx : Int) : Prop where
  n : y.n = x.n + 1
  E : y.E = addY x.n x.E (eAt x.S.M s)
  M : y.S.M = x.S.M
  u : U64 y.S
noncomputable def tkUp (x : TI) : TI := ⟨teY x.S x.o, teX x.n x.S x.o, teNX x.n x.o, teEX x.n x.E x.S x.o⟩
theorem tkIt_s (S : MS) (i : Nat) : tkIt S (i + 1) = tkUp (tkIt S i) := rfl
theorem tk_five {x : TI} {h s : Int} {e : Enty} (hx : x.o = ⟨3, h, s, e⟩) (hn : x.n < 256) (hu : U64 x.S) :
    (tkUp x).o.ln = 4 ∧ (tkUp (tkUp x)).o.ln = 5 ∧ (tkUp (tkUp (tkUp x))).o.ln = 6 ∧ (tkUp (tkUp (tkUp (tkUp x)))).o.ln = 7 ∧
    Tk5 x (tkUp (tkUp (tkUp (tkUp (tkUp x))))) s (hSlot (mget x.S.M (key 9 s 2))) ∧
    (tkUp (tkUp (tkUp (tkUp (tkUp x))))).o = teO (x.n + 1) x.S ⟨7, h, s, eAt x.S.M s⟩ := by
  obtain ⟨S, o, n, E⟩ := x
  subst hx
  have e1 : tkUp ⟨S, ⟨3, h, s, e⟩, n, E⟩ = ⟨mLoad S 9 s 0, ⟨4, h, s, ⟨s, hdrG (mget S.M (key 9 s 0)), false, e.birth, e.epoch, e.era⟩⟩, n, E⟩ := by
    unfold tkUp; rw [teY_eq, teX_eq, teNX_eq, teEX_eq]; rfl
  have e2 : tkUp ⟨mLoad S 9 s 0, ⟨4, h, s, ⟨s, hdrG (mget S.M (key 9 s 0)), false, e.birth, e.epoch, e.era⟩⟩, n, E⟩ = ⟨mLoad (mLoad S 9 s 0) 9 s 1, ⟨5, h, s, ⟨s, hdrG (mget S.M (key 9 s 0)), false, mget S.M (key 9 s 1), e.epoch, e.era⟩⟩, n, E⟩ := by
    unfold tkUp; rw [teY_eq, teX_eq, teNX_eq, teEX_eq]; rfl
  have e3 : tkUp ⟨mLoad (mLoad S 9 s 0) 9 s 1, ⟨5, h, s, ⟨s, hdrG (mget S.M (key 9 s 0)), false, mget S.M (key 9 s 1), e.epoch, e.era⟩⟩, n, E⟩ = ⟨mLoad (mLoad (mLoad S 9 s 0) 9 s 1) 9 s 3, ⟨6, h, s, ⟨s, hdrG (mget S.M (key 9 s 0)), false, mget S.M (key 9 s 1), mget S.M (key 9 s 3), e.era⟩⟩, n, E⟩ := by
    unfold tkUp; rw [teY_eq, teX_eq, teNX_eq, teEX_eq]; rfl
  have e4 : tkUp ⟨mLoad (mLoad (mLoad S 9 s 0) 9 s 1) 9 s 3, ⟨6, h, s, ⟨s, hdrG (mget S.M (key 9 s 0)), false, mget S.M (key 9 s 1), mget S.M (key 9 s 3), e.era⟩⟩, n, E⟩ = ⟨mLoad (mLoad (mLoad (mLoad S 9 s 0) 9 s 1) 9 s 3) 9 s 4, ⟨7, h, s, eAt S.M s⟩, n + 1, addY n E (eAt S.M s)⟩ := by
    unfold tkUp; rw [teY_eq, teX_eq, teNX_eq, teEX_eq]; rfl
  have e5 : tkUp ⟨mLoad (mLoad (mLoad (mLoad S 9 s 0) 9 s 1) 9 s 3) 9 s 4, ⟨7, h, s, eAt S.M s⟩, n + 1, addY n E (eAt S.M s)⟩ = ⟨mLoad (mLoad (mLoad (mLoad (mLoad S 9 s 0) 9 s 1) 9 s 3) 9 s 4) 9 s 2, teO (n + 1) S ⟨7, h, s, eAt S.M s⟩, n + 1, addY n E (eAt S.M s)⟩ := by
    unfold tkUp; rw [teY_eq, teX_eq, teNX_eq, teEX_eq]; rfl
  rw [e1, e2, e3, e4, e5]
  exact ⟨rfl, rfl, rfl, rfl, ⟨rfl, rfl, rfl, hu⟩, rfl⟩
section
variable {S : MS} {l : List Int} {t : Int} (h : SO S l t) (hl0 : 0 < l.length) (hl : l.length ≤ 256) (ht0 : 0 ≤ t) (ht : t + 1 < 281474976710656)
include h hl0 hl ht0 ht
theorem tk_at : ∀ j (hj : j < l.length), (∃ e, (tkIt S (2 + 5 * j)).o = ⟨3, hHead (oTop l) t, l[j], e⟩) ∧ (tkIt S (2 + 5 * j)).n = j ∧ (∀ x (hx : x < l.length), x < j → (tkIt S (2 + 5 * j)).E x = eAt S.M l[x]) ∧ (tkIt S (2 + 5 * j)).S.M = (tkIt S 2).S.M ∧ U64 (tkIt S (2 + 5 * j)).S ∧ (∀ i, 1 ≤ i → i ≤ 2 + 5 * j → ¬ (tkIt S i).o.ln = 0)
  | 0, hj => by
    obtain ⟨h1, h2, h3, h4, h5⟩ := tk_two h hl0 ht0 ht
    refine ⟨⟨y0, ?_⟩, h3, fun x _ hx => absurd hx (Nat.not_lt_zero x), rfl, h4.u, fun i i1 i2 => ?_⟩
    · rw [h2]
      cases l with
      | nil => simp at hl0
      | cons a r => rfl
    · have : i = 1 ∨ i = 2 := by omega
      rcases this with rfl | rfl
      · rw [h1]; show ¬ (2 : Int) = 0; decide
      · rw [h2]; show ¬ (3 : Int) = 0; decide
  | j + 1, hj => by
    obtain ⟨h1, h2, h3, h4, h5⟩ := tk_two h hl0 ht0 ht
    obtain ⟨⟨e, g1⟩, g2, g3, g4, g5, g6⟩ := tk_at j (by omega)
    have g5' : ∀ k a f, ¬ k = 4 → mget (tkIt S (2 + 5 * j)).S.M (key k a f) = mget S.M (key k a f) := fun k a f hk => by rw [g4]; exact h5 k a f hk
    obtain ⟨l1, l2, l3, l4, f1, f2⟩ := tk_five g1 (by omega) g5
    have ee : eAt (tkIt S (2 + 5 * j)).S.M l[j] = eAt S.M l[j] := by
      unfold eAt; rw [g5' _ _ _ (by decide), g5' _ _ _ (by decide), g5' _ _ _ (by decide), g5' _ _ _ (by decide)]
    have e5 : tkIt S (2 + 5 * (j + 1)) = tkUp (tkUp (tkUp (tkUp (tkUp (tkIt S (2 + 5 * j)))))) := by
      have : 2 + 5 * (j + 1) = 2 + 5 * j + 1 + 1 + 1 + 1 + 1 := by omega
      rw [this]; rfl
    have hlk : mget S.M (key 9 l[j] 2) = hHead l[j + 1] 0 := by
      have key : ∀ (l : List Int) (j : Nat) (hj : j + 1 < l.length), oLinks S.M l → mget S.M (key 9 (l[j]'(by omega)) 2) = hHead l[j + 1] 0 := by
        intro l
        induction l with
        | nil => intro j hj; simp at hj
        | cons a r ih =>
          intro j hj hk
          cases j with
          | zero =>
            cases r with
            | nil => simp at hj
            | cons b r => exact hk.1
          | succ j => exact ih j (by simpa using hj) hk.2
      exact key l j hj h.lk
    have hr1 := h.r _ (List.getElem_mem hj)
    have hns : hSlot (mget (tkIt S (2 + 5 * j)).S.M (key 9 l[j] 2)) = l[j + 1] := by rw [g5' _ _ _ (by decide), hlk, oSlot_head hr1.1 hr1.2]
    refine ⟨⟨eAt S.M l[j], ?_⟩, ?_, ?_, ?_, ?_, ?_⟩
    · rw [e5, f2, g2, teO_7b (by rw [hns]; omega), hns, ee]
    · rw [e5, f1.n, g2]
    · intro x hx hxj
      rw [e5, f1.E, g2]
      by_cases c : x = j
      · subst c; rw [addY_eq, ee]
      · rw [addY_lt (by omega)]; exact g3 x hx (by omega)
    · rw [e5, f1.M]; exact g4
    · rw [e5]; exact f1.u
    · intro i i1 i2
      by_cases c : i ≤ 2 + 5 * j
      · exact g6 i i1 c
      · have : i = 2 + 5 * j + 1 ∨ i = 2 + 5 * j + 1 + 1 ∨ i = 2 + 5 * j + 1 + 1 + 1 ∨ i = 2 + 5 * j + 1 + 1 + 1 + 1 ∨ i = 2 + 5 * (j + 1) := by omega
        rcases this with rfl | rfl | rfl | rfl | rfl
        · show ¬ (tkUp _).o.ln = 0; rw [l1]; decide
        · show ¬ (tkUp (tkUp _)).o.ln = 0; rw [l2]; decide
        · show ¬ (tkUp (tkUp (tkUp _))).o.ln = 0; rw [l3]; decide
        · show ¬ (tkUp (tkUp (tkUp (tkUp _)))).o.ln = 0; rw [l4]; decide
        · rw [e5, f2, g2, teO_7b (by rw [hns]; omega)]; show ¬ (3 : Int) = 0; decide
theorem tk_is : TkIs S l t := by
  obtain ⟨h1, h2, h3, h4, h5⟩ := tk_two h hl0 ht0 ht
  obtain ⟨⟨e, g1⟩, g2, g3, g4, g5, g6⟩ := tk_at h hl0 hl ht0 ht (l.length - 1) (by omega)
  have g5' : ∀ k a f, ¬ k = 4 → mget (tkIt S (2 + 5 * (l.length - 1))).S.M (key k a f) = mget S.M (key k a f) := fun k a f hk => by rw [g4]; exact h5 k a f hk
  obtain ⟨l1, l2, l3, l4, f1, f2⟩ := tk_five g1 (by omega) g5
  have hlast : l.length - 1 < l.length := by omega
  have ee : eAt (tkIt S (2 + 5 * (l.length - 1))).S.M l[l.length - 1] = eAt S.M l[l.length - 1] := by
    unfold eAt; rw [g5' _ _ _ (by decide), g5' _ _ _ (by decide), g5' _ _ _ (by decide), g5' _ _ _ (by decide)]
  have e5 : tkIt S (5 * l.length + 2) = tkUp (tkUp (tkUp (tkUp (tkUp (tkIt S (2 + 5 * (l.length - 1))))))) := by
    have : 5 * l.length + 2 = 2 + 5 * (l.length - 1) + 1 + 1 + 1 + 1 + 1 := by omega
    rw [this]; rfl
  have hlk : mget S.M (key 9 l[l.length - 1] 2) = hHead (-1) 0 := by
    have key : ∀ (l : List Int) (h0 : 0 < l.length), oLinks S.M l → mget S.M (key 9 (l[l.length - 1]'(by omega)) 2) = hHead (-1) 0 := by
      intro l
      induction l with
      | nil => intro h0; simp at h0
      | cons a r ih =>
        intro h0 hk
        cases r with
        | nil => exact hk.1
        | cons b r => exact ih (by simp) hk.2
    exact key l hl0 h.lk
  have hns : hSlot (mget (tkIt S (2 + 5 * (l.length - 1))).S.M (key 9 l[l.length - 1] 2)) = -1 := by rw [g5' _ _ _ (by decide), hlk]; exact oSlot_none (by decide)
  have hov : (tkIt S (5 * l.length + 2)).o.ln = 0 := by rw [e5, f2, g2, teO_7a (.inl (by rw [hns]; decide))]
  have hM : (tkIt S (5 * l.length + 2)).S.M = (tkIt S 2).S.M := by rw [e5, f1.M]; exact g4
  refine ⟨⟨h.u, hl0, by omega, fun i i1 i2 => ?_, hov, ?_⟩, ?_, ?_, ?_⟩
  · by_cases c : i ≤ 2 + 5 * (l.length - 1)
    · exact g6 i i1 c
    · have : i = 2 + 5 * (l.length - 1) + 1 ∨ i = 2 + 5 * (l.length - 1) + 1 + 1 ∨ i = 2 + 5 * (l.length - 1) + 1 + 1 + 1 ∨ i = 2 + 5 * (l.length - 1) + 1 + 1 + 1 + 1 := by omega
      rcases this with rfl | rfl | rfl | rfl
      · show ¬ (tkUp _).o.ln = 0; rw [l1]; decide
      · show ¬ (tkUp (tkUp _)).o.ln = 0; rw [l2]; decide
      · show ¬ (tkUp (tkUp (tkUp _))).o.ln = 0; rw [l3]; decide
      · show ¬ (tkUp (tkUp (tkUp (tkUp _)))).o.ln = 0; rw [l4]; decide
  · rw [e5, f1.n, g2]; omega
  · rw [tknY_eq]
    exact ⟨by rw [e5]; exact f1.u, by rw [hM]; exact h4.hd, trivial, by simp, by simp⟩
  · intro j hj
    rw [tknE_eq, e5, f1.E, g2]
    by_cases c : j = l.length - 1
    · subst c; rw [addY_eq, ee]
    · rw [addY_lt (by omega)]; exact g3 j hj (by omega)
  · intro k a f hk
    rw [tknY_eq, hM]; exact h5 k a f hk
end
theorem tk_none {S : MS} {t : Int} (h : SO S [] t) : TkNone S := ⟨h.u, by unfold oHd; rw [h.hd]; show hSlot (hHead (-1) t) < 0; rw [oSlot_none (by decide)]; decide⟩
end Go.Proofs.YtmndhjodbnojdaaDoor
