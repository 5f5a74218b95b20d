/-
  OrphansOrder: the plain law.
-/
import Derived.Test.YtmndhjodbnojdaaDoorJSoLaw
import Derived.Test.YtmndhjodbnojdaaDoorJOq
set_option linter.unusedSimpArgs false
set_option linter.unusedVariables false
namespace Go.Proofs.YtmndhjodbnojdaaDoor
open Go.Ev
structure OW where
  S : MS
  nn : Nat
  En : Nat → Enty
  nw : Nat
  Ew : Nat → Enty
/-- One more is retired; what there is is given. -/
noncomputable def owA (w : OW) (x : Int) : OW := ⟨ofSX w.S x, w.nn + 1, addY w.nn w.En (ofEX x), w.nw, w.Ew⟩
def rawY (n : Nat) (F : Nat → Nat → AV) (e : Enty) : Nat → Nat → AV := fun i j => if i < n then F (0 + i) j else rowsOf 6 [.sym .i64 e.slot, .sym .u32 e.gen, .symb e.mark, .sym .u64 e.birth, .sym .u64 e.epoch, .sym .u64 e.era] (i - n) j
noncomputable def owAG (w : OW) (x : Int) : OW := ⟨gvnY (w.nn + 1) (yK (rawY w.nn (yF w.En) (ofEX x))) (ofSX w.S x), 0, fun _ => y0, w.nn + 1 + w.nw, fun i => if i < w.nn + 1 then addY w.nn w.En (ofEX x) i else w.Ew (i - (w.nn + 1))⟩
noncomputable def owS (w : OW) (p x : Int) : OW := match decide (Int.ofNat (w.nn + 1) > p) with
  | true => owAG w x
  | false => owA w x
def opP (p : Int) : Int := (IntKind.i64.wrap p).tmod 5
def opX (f : Nat → Nat → AV) (i : Nat) : Int := IntKind.i64.wrap (avInt (f (0 + i) 0))
noncomputable def owN (p : Int) (f : Nat → Nat → AV) : Nat → OW
  | 0 => ⟨ms0, 0, fun _ => y0, 0, fun _ => y0⟩
  | i + 1 => match hadF f i i with
    | true => owN p f i
    | false => owS (owN p f i) (opP p) (opX f i)
/-! ### what stands in the lists, round by round -/
theorem had_iff {f : Nat → Nat → AV} {j : Nat} : ∀ k, hadF f j k = true ↔ ∃ i, i < k ∧ avInt (f i 0) = avInt (f j 0)
  | 0 => by simp [hadF]
  | k + 1 => by
    have ih := had_iff (f := f) (j := j) k
    simp only [hadF]
    cases h : hadF f j k with
    | true =>
      obtain ⟨i, hi, e⟩ := ih.1 h
      simp only [true_iff]
      exact ⟨i, by omega, e⟩
    | false =>
      simp only [Nat.zero_add, beq_iff_eq]
      constructor
      · exact fun e => ⟨k, by omega, e⟩
      · rintro ⟨i, hi, e⟩
        by_cases c : i = k
        · subst c; exact e
        · exact absurd (ih.2 ⟨i, by omega, e⟩) (by rw [h]; decide)
theorem of_hdr {s g : Int} (s0 : 0 ≤ s) (g0 : 0 ≤ g) (g1 : g < 4294967296) : hdrG (hdr s g) = g := by
  have e : hdr s g = (if 4 < s then 4 else s) + g * 8 := rfl
  unfold hdrG
  rw [e]; split <;> omega
theorem of_hr {s g : Int} (s0 : 0 ≤ s) (g0 : 0 ≤ g) (g1 : g < 4294967296) : 0 ≤ hdr s g ∧ hdr s g < 18446744073709551616 := by
  unfold hdr; split <;> omega
theorem of_so {S : MS} {l : List Int} {t s : Int} (h : SO S l t) (h0 : 0 ≤ s) (h1 : s < 256) : SO (ofSX S s) l t ∧ eAt (ofSX S s).M s = ofE s ∧ ∀ x, x ≠ s → eAt (ofSX S s).M x = eAt S.M x := by
  have hg := u32_r (IntKind.u32.wrap s + 3)
  have hh := of_hr (s := 2) (g := (ofE s).gen) (by decide) hg.1 hg.2
  have eM : (ofSX S s).M = memPut (memPut (memPut (memPut S.M 9 s 0 (hdr 2 (ofE s).gen)) 9 s 1 (ofE s).birth) 9 s 3 (ofE s).epoch) 9 s 4 (ofE s).era := by rw [ofSX_eq]; rfl
  have m := fun (f : Int) (f0 : 0 ≤ f) (f1 : f < 8) => mayO h0 h1 f0 f1
  refine ⟨?_, ?_, fun x hx => ?_⟩
  · rw [ofSX_eq]
    exact (((h.store (fun _ _ e => by omega) hh).store (fun _ _ e => by omega) (w64_r _)).store (fun _ _ e => by omega) (w64_r _)).store (fun _ _ e => by omega) (w64_r _)
  · unfold eAt
    rw [eM, oput_ne (by omega), oput_ne (by omega), oput_ne (by omega), oput_eq (m 0 (by decide) (by decide)), oput_ne (by omega), oput_ne (by omega), oput_eq (m 1 (by decide) (by decide)), oput_ne (by omega), oput_eq (m 3 (by decide) (by decide)), oput_eq (m 4 (by decide) (by decide)), of_hdr (s := 2) (g := (ofE s).gen) (by decide) hg.1 hg.2]
    rfl
  · unfold eAt
    rw [eM]
    have ne : ∀ (a b : Int), ¬ (9 = (9 : Int) ∧ x = s ∧ a = b) := fun a b e => hx e.2.1
    simp only [oput_ne (ne _ _)]
structure OI (f : Nat → Nat → AV) (w : OW) (i : Nat) (nl wl : List Int) (t : Int) : Prop where
  so : SO w.S wl t
  nn : nl.length = w.nn
  nw : wl.length = w.nw
  en : ∀ j (hj : j < nl.length), w.En j = ofE nl[j]
  ew : ∀ j (hj : j < wl.length), w.Ew j = ofE wl[j]
  at_ : ∀ s ∈ nl ++ wl, eAt w.S.M s = ofE s
  nd : (nl ++ wl).Nodup
  r : ∀ s ∈ nl ++ wl, 0 ≤ s ∧ s < 256 ∧ ∃ k, k < i ∧ s = opX f k
  t0 : 0 ≤ t
  t1 : t ≤ i
  len : nl.length + wl.length ≤ i
theorem OI.up {f : Nat → Nat → AV} {w : OW} {i : Nat} {nl wl : List Int} {t : Int} (h : OI f w i nl wl t) : OI f w (i + 1) nl wl t :=
  ⟨h.so, h.nn, h.nw, h.en, h.ew, h.at_, h.nd, fun s hs => by obtain ⟨a, b, k, c, d⟩ := h.r s hs; exact ⟨a, b, k, by omega, d⟩, h.t0, by have := h.t1; omega, by have := h.len; omega⟩
theorem OI.add {f : Nat → Nat → AV} {w : OW} {i : Nat} {nl wl : List Int} {t x : Int} (h : OI f w i nl wl t) (hx : x = opX f i) (h0 : 0 ≤ x) (h1 : x < 256) (hno : ∀ k, k < i → x ≠ opX f k) : OI f (owA w x) (i + 1) (nl ++ [x]) wl t := by
  obtain ⟨s1, s2, s3⟩ := of_so h.so h0 h1
  have hnew : x ∉ nl ++ wl := fun hm => by obtain ⟨_, _, k, hk, e⟩ := h.r x hm; exact hno k hk e
  have hmem : ∀ s, s ∈ (nl ++ [x]) ++ wl → s = x ∨ s ∈ nl ++ wl := fun s hs => by simp at hs ⊢; rcases hs with a | a | a; exact .inr (.inl a); exact .inl a; exact .inr (.inr a)
  refine ⟨s1, by simp [owA, h.nn], h.nw, fun j hj => ?_, h.ew, fun s hs => ?_, ?_, fun s hs => ?_, h.t0, by have := h.t1; omega, by have := h.len; simp; omega⟩
  · show addY w.nn w.En (ofEX x) j = _
    by_cases c : j < nl.length
    · rw [addY_lt (by have := h.nn; omega), h.en j c, List.getElem_append_left c]
    · have d : j = w.nn := by have := h.nn; simp at hj; omega
      subst d
      have e : (nl ++ [x])[w.nn] = x := by
        rw [List.getElem_append_right (by have := h.nn; omega)]; simp [h.nn]
      rw [addY_eq, e, ofEX_eq]
  · rcases hmem s hs with rfl | hm
    · exact s2
    · show eAt (ofSX w.S x).M s = _
      rw [s3 s (fun e => hnew (by rw [← e]; exact hm))]; exact h.at_ s hm
  · have e : (nl ++ [x]) ++ wl = nl ++ (x :: wl) := by simp
    rw [e, List.nodup_append]
    have q := List.nodup_append.1 h.nd
    refine ⟨q.1, List.nodup_cons.2 ⟨fun hm => hnew (by simp [hm]), q.2.1⟩, fun a ha b hb => ?_⟩
    rcases List.mem_cons.1 hb with rfl | hb
    · exact fun e => hnew (by rw [← e]; simp [ha])
    · exact q.2.2 a ha b hb
  · rcases hmem s hs with rfl | hm
    · exact ⟨h0, h1, i, by omega, hx⟩
    · obtain ⟨a, b, k, c, d⟩ := h.r s hm; exact ⟨a, b, k, by omega, d⟩
theorem raw_lt {n : Nat} {E : Nat → Enty} {e : Enty} {j c : Nat} (h : j < n) : rawY n (yF E) e (0 + j) c = yR (E j) c := by
  unfold rawY; rw [Nat.zero_add, if_pos h, Nat.zero_add]; rfl
theorem raw_eq {n : Nat} {E : Nat → Enty} {e : Enty} {c : Nat} : rawY n (yF E) e (0 + n) c = rowsOf 6 [.sym .i64 e.slot, .sym .u32 e.gen, .symb e.mark, .sym .u64 e.birth, .sym .u64 e.epoch, .sym .u64 e.era] 0 c := by
  unfold rawY; rw [Nat.zero_add, if_neg (Nat.lt_irrefl n), Nat.sub_self]
theorem OI.raw {f : Nat → Nat → AV} {w : OW} {i : Nat} {nl wl : List Int} {t x : Int} (h : OI f w i nl wl t) : ∀ j (hj : j < (nl ++ [x]).length), yK (rawY w.nn (yF w.En) (ofEX x)) j = (nl ++ [x])[j] ∧ avBool (rawY w.nn (yF w.En) (ofEX x) (0 + j) 2) = false := fun j hj => by
  by_cases c : j < nl.length
  · have c2 : j < w.nn := by have := h.nn; omega
    refine ⟨?_, ?_⟩
    · show avInt (rawY _ _ _ (0 + j) 0) = _
      rw [raw_lt c2, h.en j c, List.getElem_append_left c]; rfl
    · rw [raw_lt c2, h.en j c]; rfl
  · have d : j = w.nn := by have := h.nn; simp at hj; omega
    subst d
    have e : (nl ++ [x])[w.nn] = x := by
      rw [List.getElem_append_right (by have := h.nn; omega)]; simp [h.nn]
    refine ⟨?_, ?_⟩
    · show avInt (rawY _ _ _ (0 + w.nn) 0) = _
      rw [raw_eq, e, ofEX_eq]; rfl
    · rw [raw_eq, ofEX_eq]; rfl
structure OAG (f : Nat → Nat → AV) (w : OW) (i : Nat) (nl wl : List Int) (t x : Int) : Prop where
  u : U64 w.S
  u1 : U64 (ofSX w.S x)
  may : GvMay (w.nn + 1) (rawY w.nn (yF w.En) (ofEX x))
  no : GvNo (w.nn + 1) (yK (rawY w.nn (yF w.En) (ofEX x))) (ofSX w.S x)
  b : gvnB (w.nn + 1) (yK (rawY w.nn (yF w.En) (ofEX x))) (ofSX w.S x) = true
  oi : OI f (owAG w x) (i + 1) [] ((nl ++ [x]) ++ wl) (t + 1)
theorem OI.addGive {f : Nat → Nat → AV} {w : OW} {i : Nat} {nl wl : List Int} {t x : Int} (h : OI f w i nl wl t) (hi : i ≤ 100) (hx : x = opX f i) (h0 : 0 ≤ x) (h1 : x < 256) (hno : ∀ k, k < i → x ≠ opX f k) : OAG f w i nl wl t x := by
  have a := h.add hx h0 h1 hno
  have hl := h.len
  have hnn := h.nn
  have hraw := h.raw (x := x)
  have hlen : (nl ++ [x]).length = w.nn + 1 := by simp [hnn]
  have g := gv_is a.so hlen (fun j hj => (hraw j hj).1) (by omega) (by omega) a.nd (fun s hs => ⟨(a.r s (by simp at hs ⊢; rcases hs with c | c; exact .inl c; exact .inr (.inl c))).1, (a.r s (by simp at hs ⊢; rcases hs with c | c; exact .inl c; exact .inr (.inl c))).2.1⟩) h.t0 (by have := h.t1; omega)
  have hnd := (List.nodup_append.1 a.nd).1
  refine ⟨h.so.u, a.so.u, ⟨fun j hj => ?_, fun j hj k hk => ?_, by omega, by omega⟩, g.no, g.b, ?_⟩
  · have q := hraw j (by omega)
    have r := a.r (nl ++ [x])[j] (List.mem_append_left _ (List.getElem_mem (by omega)))
    rw [q.1]; exact ⟨r.1, r.2.1, q.2⟩
  · rw [(hraw j (by omega)).1, (hraw k (by omega)).1]
    exact fun e => by have := (List.getElem_inj hnd).1 e; omega
  · refine ⟨g.so, rfl, by show ((nl ++ [x]) ++ wl).length = w.nn + 1 + w.nw; rw [List.length_append, hlen, h.nw], fun j hj => absurd hj (Nat.not_lt_zero j), fun j hj => ?_, fun s hs => ?_, by simpa using a.nd, fun s hs => a.r s (by simpa using hs), by have := h.t0; omega, by have := h.t1; omega, by have := a.len; simp at this ⊢; omega⟩
    · show (if j < w.nn + 1 then addY w.nn w.En (ofEX x) j else w.Ew (j - (w.nn + 1))) = _
      by_cases c : j < w.nn + 1
      · rw [if_pos c, List.getElem_append_left (by omega)]
        exact a.en j (by omega)
      · rw [if_neg c, List.getElem_append_right (by omega)]
        simp only [hlen]
        exact h.ew (j - (w.nn + 1)) (by simp at hj; omega)
    · show eAt (gvnY _ _ _).M s = _
      have e : ∀ ff, ¬ ff = 2 → mget (gvnY (w.nn + 1) (yK (rawY w.nn (yF w.En) (ofEX x))) (ofSX w.S x)).M (key 9 s ff) = mget (ofSX w.S x).M (key 9 s ff) := fun ff hf => g.fr 9 s ff (by decide) (fun e => hf e.2)
      unfold eAt
      rw [e 0 (by decide), e 1 (by decide), e 3 (by decide), e 4 (by decide)]
      exact a.at_ s (by simpa using hs)
theorem opX_r {f : Nat → Nat → AV} {k : Nat} (h : 0 ≤ avInt (f k 0) ∧ avInt (f k 0) < 256) : opX f k = avInt (f k 0) := by
  unfold opX; rw [Nat.zero_add]; exact i64w (by omega) (by omega)
theorem oi_all {p : Int} {f : Nat → Nat → AV} {m : Nat} (hm : m ≤ 100) (hr : ∀ k, k < m → 0 ≤ avInt (f k 0) ∧ avInt (f k 0) < 256) : ∀ i, i ≤ m → ∃ nl wl t, OI f (owN p f i) i nl wl t
  | 0, _ => ⟨[], [], 0, SO.nil, rfl, rfl, fun j hj => absurd hj (Nat.not_lt_zero j), fun j hj => absurd hj (Nat.not_lt_zero j), by simp, by simp, by simp, Int.le_refl _, Int.le_refl _, Nat.le_refl _⟩
  | i + 1, hi => by
    obtain ⟨nl, wl, t, h⟩ := oi_all (p := p) hm hr i (by omega)
    cases hh : hadF f i i with
    | true =>
      have e : owN p f (i + 1) = owN p f i := by simp only [owN, hh]
      rw [e]; exact ⟨nl, wl, t, h.up⟩
    | false =>
      have e : owN p f (i + 1) = owS (owN p f i) (opP p) (opX f i) := by simp only [owN, hh]
      have hx := hr i (by omega)
      have ex := opX_r hx
      have hno : ∀ k, k < i → opX f i ≠ opX f k := fun k hk e => by
        rw [ex, opX_r (hr k (by omega))] at e
        have := (had_iff (f := f) (j := i) i).2 ⟨k, hk, e.symm⟩
        rw [hh] at this; cases this
      rw [e]; unfold owS
      split
      · exact ⟨_, _, _, (h.addGive (by omega) rfl (by rw [ex]; exact hx.1) (by rw [ex]; exact hx.2) hno).oi⟩
      · exact ⟨_, _, _, h.add rfl (by rw [ex]; exact hx.1) (by rw [ex]; exact hx.2) hno⟩
theorem give_rows {n k : Nat} {E E2 : Nat → Enty} {e : Enty} : ∀ i, i < k → rowOb ySh 0 (fun j => if i < n + 1 then (if 0 + (0 + i) < n then yF E (0 + (0 + (0 + i))) j else rowsOf 6 [.sym .i64 e.slot, .sym .u32 e.gen, .symb e.mark, .sym .u64 e.birth, .sym .u64 e.epoch, .sym .u64 e.era] (0 + (0 + i) - n) j) else yF E2 (0 + (i - (n + 1))) j) (yF (fun i => if i < n + 1 then addY n E e i else E2 (i - (n + 1))) i) := fun i _ => by
  unfold yF
  by_cases c : i < n + 1
  · simp only [c, if_true, Nat.zero_add]
    by_cases d : i < n
    · simp only [d, if_true]; rw [addY_lt d]; exact row_y rfl
    · have q : i = n := by omega
      subst q
      simp only [Nat.lt_irrefl, if_false, Nat.sub_self]; rw [addY_eq]; exact row_y rfl
  · simp only [c, if_false, Nat.zero_add]; exact row_y rfl
end Go.Proofs.YtmndhjodbnojdaaDoor
