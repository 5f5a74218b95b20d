/-
  AllocsRound: the plain law.
-/
import Derived.Test.YtmndhjodbnojdaaDoorJArDef
set_option linter.unusedSimpArgs false
set_option linter.unusedVariables false
namespace Go.Proofs.YtmndhjodbnojdaaDoor
open Go.Ev
/-- Behind a Made: the slot is freed; or it is gone. s: the slot. -/
noncomputable def fr1 (S : MS) : MS := mLoad (mdX S) 9 (mdS S) 0
noncomputable def frG (S : MS) : Int := hdrG (mget (mdX S).M (key 9 (mdS S) 0))
noncomputable def fr2 (S : MS) : MS := mStore (fr1 S) 9 (mdS S) 0 (hdr 0 (IntKind.u32.wrap (frG S + 1)))
noncomputable def fr3 (S : MS) : MS := mLoad (fr2 S) 6 (IntKind.i64.wrap ((mdS S).tdiv 8)) 0
noncomputable def fr4 (S : MS) : MS := psS3 (fr3 S) (mdS S)
noncomputable def fr5 (S : MS) : MS := mLoad (fr4 S) 9 0 0
noncomputable def go2 (S : MS) : MS := mStore (fr1 S) 9 (mdS S) 0 (hdr 4 (frG S))
noncomputable def goP (S : MS) : Int := mget (go2 S).M (key 6 (IntKind.i64.wrap ((mdS S).tdiv 8)) 1)
noncomputable def go3 (S : MS) : MS := mLoad (go2 S) 6 (IntKind.i64.wrap ((mdS S).tdiv 8)) 1
noncomputable def go4 (S : MS) : MS := mCas (go3 S) 6 (IntKind.i64.wrap ((mdS S).tdiv 8)) 1 (goP S) (IntKind.u64.wrap (goP S + 1))
noncomputable def go5 (S : MS) : MS := mLoad (go4 S) 9 0 0
noncomputable def frX : MS → MS := hide fr5
noncomputable def goX : MS → MS := hide go5
theorem frX_eq (S : MS) : frX S = fr5 S := congrFun (hide_eq fr5) S
theorem goX_eq (S : MS) : goX S = go5 S := congrFun (hide_eq go5) S
noncomputable def arB : MS := mdX (mdX (mdX (mdX (mdX (mdX (mdX (bmX 1)))))))
noncomputable def arM (w : Int) : Nat → MS
  | 0 => arB
  | i + 1 => if (i : Int) < w then frX (arM w i) else goX (arM w i)
/-! ### frames -/
theorem popY_get {S : MS} {o : PO} {k a f : Int} (hk : k ≠ 0) : mget (popY S o).M (key k a f) = mget S.M (key k a f) := by
  rw [popY_eq]; unfold popS
  repeat' split
  · rfl
  · rfl
  · show mget (casM S.M 0 0 0 _ _) _ = _
    rw [casM_put]; split
    · rw [mget_put, if_neg (fun e => hk e.2.1)]
    · rfl
  · rfl
theorem pshY_get {S : MS} {o : UO} {k a f : Int} (hk : k ≠ 0) (h9 : ¬ (k = 9 ∧ f = 2)) : mget (pshY S o).M (key k a f) = mget S.M (key k a f) := by
  rw [pshY_eq]; unfold pshS
  repeat' split
  · rfl
  · show mget (memPut S.M 9 _ 2 _) _ = _
    rw [mget_put, if_neg (fun e => h9 ⟨e.2.1, e.2.2.2⟩)]
  · show mget (casM S.M 0 0 0 _ _) _ = _
    rw [casM_put]; split
    · rw [mget_put, if_neg (fun e => hk e.2.1)]
    · rfl
  · rfl
theorem ppS3_get {S : MS} {k a f : Int} (hk : k ≠ 0) : mget (ppS3 S).M (key k a f) = mget S.M (key k a f) := by
  unfold ppS3; rw [popY_get hk]; unfold ppS2; rw [popY_get hk]; unfold ppS1; rw [popY_get hk]
theorem psS3_get {S : MS} {s k a f : Int} (hk : k ≠ 0) (h9 : ¬ (k = 9 ∧ f = 2)) : mget (psS3 S s).M (key k a f) = mget S.M (key k a f) := by
  unfold psS3; rw [pshY_get hk h9]; unfold psS2; rw [pshY_get hk h9]; unfold psS1; rw [pshY_get hk h9]
theorem put_ne {M : List Int → Option Int} {k a f v k' a' f' : Int} (h : ¬ (k' = k ∧ a' = a ∧ f' = f)) : mget (memPut M k a f v) (key k' a' f') = mget M (key k' a' f') := by
  rw [mget_put, if_neg (fun e => h e.2)]
theorem put_eq {M : List Int → Option Int} {k a f v : Int} (h : mayA k a f = true) : mget (memPut M k a f v) (key k a f) = v := by
  rw [mget_put, if_pos ⟨h, rfl, rfl, rfl⟩]
theorem mayS {s f : Int} (h0 : 0 ≤ s) (h1 : s < 256) (f0 : 0 ≤ f) (f1 : f < 8) : mayA 9 s f = true := by
  unfold mayA kAt kFl
  exact decide_eq_true ⟨by decide, h0, by simpa using h1, f0, by simpa using f1⟩
theorem mayG {s f : Int} (h0 : 0 ≤ s) (h1 : s < 32) (f0 : 0 ≤ f) (f1 : f < 2) : mayA 6 s f = true := by
  unfold mayA kAt kFl
  exact decide_eq_true ⟨by decide, h0, by simpa using h1, f0, by simpa using f1⟩
/-- A store that is no head, and no link of the list. -/
theorem SK.other {S : MS} {l : List Int} {t k a f v : Int} (h : SK S l t) (hk : k ≠ 0) (h9 : ¬ (k = 9 ∧ f = 2)) (hv : 0 ≤ v ∧ v < 18446744073709551616) : SK (mStore S k a f v) l t := by
  refine ⟨h.u.store _ _ _ _ hv, ?_, ?_, h.r, h.nd⟩
  · show mget (memPut S.M k a f v) _ = _
    rw [put_ne (fun e => hk e.1.symm)]; exact h.hd
  · refine links_of h.lk (fun x _ => ?_)
    show mget (memPut S.M k a f v) _ = _
    rw [put_ne (fun e => h9 ⟨e.1.symm, e.2.2.symm⟩)]
theorem hdr_r {s g : Int} (s0 : 0 ≤ s) (g0 : 0 ≤ g) (g1 : g < 4294967296) : 0 ≤ hdr s g ∧ hdr s g < 18446744073709551616 := by
  unfold hdr; split <;> omega
theorem hdrG_hdr {s g : Int} (s0 : 0 ≤ s) (g0 : 0 ≤ g) (g1 : g < 4294967296) : hdrG (hdr s g) = g := by
  have e : hdr s g = (if 4 < s then 4 else s) + g * 8 := rfl
  unfold hdrG
  rw [e]; split <;> omega
theorem hdrS_hdr {s g : Int} (s0 : 0 ≤ s) (s1 : s ≤ 4) (g0 : 0 ≤ g) : Go.Ev.hdrS (hdr s g) = s := by
  have e : hdr s g = s + g * 8 := by unfold hdr; rw [if_neg (by omega)]
  have e2 : (s + g * 8) % 8 = s := by omega
  unfold Go.Ev.hdrS
  rw [e, e2, if_neg (by omega)]
theorem may600 : mayA 6 0 0 = true := by decide
theorem may601 : mayA 6 0 1 = true := by decide
theorem may900 : mayA 9 0 0 = true := by decide
/-! ### Made, where there is a slot -/
structure MdIs (S : MS) (s : Int) (l : List Int) (t : Int) : Prop where
  ok : MdOk S
  es : mdS S = s
  eg : mdG S = hdrG (mget S.M (key 9 s 0))
  sk : SK (mdX S) l (t + 1)
  hd : mget (mdX S).M (key 9 s 0) = hdr 1 (hdrG (mget S.M (key 9 s 0)))
  fr : ∀ k a f, k ≠ 0 → ¬ (k = 9 ∧ a = s ∧ (f = 0 ∨ f = 1)) → mget (mdX S).M (key k a f) = mget S.M (key k a f)
theorem md_is {S : MS} {s : Int} {l : List Int} {t : Int} (h : SK S (s :: l) t) (ht0 : 0 ≤ t) (ht : t + 1 < 281474976710656) (hg : mget S.M (key 6 (IntKind.i64.wrap (s.tdiv 8)) 0) ≠ 2) : MdIs S s l t := by
  have hs := h.r s (by simp)
  obtain ⟨h3, e3⟩ := h.pop ht0 ht
  obtain ⟨h2, e2⟩ := h.pop2
  have hd : mget S.M (key 0 0 0) = hHead s t := h.hd
  have e1 : ppO1 S = ⟨2, hHead s t, 0, 0, false⟩ := by
    unfold ppO1; rw [popX_eq, popO_1b (by rw [hd, hSlot_head hs.1 hs.2]; omega), hd]
  have es : (ppO3 S).sl = s := by rw [e3]
  have h6u : 0 ≤ mget (md4 S).M (key 2 0 0) ∧ mget (md4 S).M (key 2 0 0) < 18446744073709551616 := h3.u _
  have h6 : SK (md6 S) l (t + 1) := by
    unfold md6; rw [es]
    exact SK.other ((h3.load _ _ _).load _ _ _) (by decide) (by omega) h6u
  have hm6 : mget (md6 S).M (key 9 s 0) = mget S.M (key 9 s 0) := by
    unfold md6; rw [es]
    show mget (memPut (ppS3 S).M 9 s 1 _) _ = _
    rw [put_ne (by omega), ppS3_get (by decide)]
  have hG : mdG0 S = hdrG (mget S.M (key 9 s 0)) := by unfold mdG0; rw [es, hm6]
  have hgr := hdrG_r (mget S.M (key 9 s 0))
  have hv := hdr_r (s := 1) (by decide) hgr.1 hgr.2
  refine ⟨⟨h.u, by rw [e1]; (show ¬ (2 : Int) = 0); decide, by rw [e2]; (show ¬ (3 : Int) = 0); decide, by rw [e3], by rw [e3], ?_⟩, by rw [mdS_eq]; exact es, by rw [mdG_eq]; exact hG, ?_, ?_, ?_⟩
  · rw [es, ppS3_get (by decide)]; exact hg
  · rw [mdX_eq]; unfold md8; rw [hG, es]
    exact SK.other (h6.load _ _ _) (by decide) (by omega) hv
  · rw [mdX_eq]; unfold md8; rw [hG, es]
    show mget (memPut _ 9 s 0 _) _ = _
    rw [put_eq (mayS hs.1 hs.2 (by decide) (by decide))]
  · intro k a f hk hne
    rw [mdX_eq]; unfold md8; rw [es]
    show mget (memPut (md6 S).M 9 s 0 _) _ = _
    rw [put_ne (by omega)]
    unfold md6; rw [es]
    show mget (memPut (ppS3 S).M 9 s 1 _) _ = _
    rw [put_ne (by omega), ppS3_get hk]
/-- .. where there is none. -/
theorem mn_ok {S : MS} {t : Int} (h : SK S [] t) : MnOk S := by
  have hd : mget S.M (key 0 0 0) = hHead (-1) t := h.hd
  have e1 : ppO1 S = ⟨0, hHead (-1) t, 0, 0, false⟩ := by
    unfold ppO1; rw [popX_eq, popO_1a (by rw [hd, hSlot_none (by decide)]; decide), hd]
  exact ⟨h.u, by rw [e1], by rw [e1]⟩
/-! ### Begin -/
theorem bgK_get (S : MS) (i : Nat) {k a f : Int} (hk : k ≠ 0) (h9 : ¬ (k = 9 ∧ f = 2)) : ∀ n, mget (bgK S i n).M (key k a f) = mget S.M (key k a f)
  | 0 => rfl
  | n + 1 => by show mget (psS3 _ _).M _ = _; rw [psS3_get hk h9]; exact bgK_get S i hk h9 n
structure AB (S : MS) (l : List Int) (t : Int) : Prop where
  sk : SK S l t
  hd : ∀ s, s ∈ l → mget S.M (key 9 s 0) = 0
  sg : mget S.M (key 6 0 0) = 1
  pk : mget S.M (key 6 0 1) = 0
theorem bg1_ab : AB (bmX 1) [7, 6, 5, 4, 3, 2, 1, 0] 8 := by
  have e : bmX 1 = bgN 1 := bmX_eq 1
  rw [e]
  have g : ∀ k a f, k ≠ 0 → ¬ (k = 9 ∧ f = 2) → mget (bgN 1).M (key k a f) = mget (memPut ms0.M 6 0 0 1) (key k a f) := fun k a f hk h9 => bgK_get _ 0 hk h9 8
  refine ⟨bgN_sk 1 (by decide), fun s _ => ?_, ?_, ?_⟩
  · rw [g _ _ _ (by decide) (by omega), put_ne (by omega)]; rfl
  · rw [g _ _ _ (by decide) (by omega), put_eq may600]
  · rw [g _ _ _ (by decide) (by omega), put_ne (by omega)]; rfl
theorem tdiv8 {s : Int} (h0 : 0 ≤ s) (h1 : s < 8) : IntKind.i64.wrap (s.tdiv 8) = 0 := by
  have : s.tdiv 8 = 0 := by rw [Int.tdiv_eq_ediv_of_nonneg h0]; omega
  rw [this]; rfl
theorem AB.made {S : MS} {s : Int} {l : List Int} {t : Int} (h : AB S (s :: l) t) (hs : 0 ≤ s ∧ s < 8) (ht0 : 0 ≤ t) (ht : t < 1000) : AB (mdX S) l (t + 1) ∧ MdOk S := by
  have h1 := md_is h.sk ht0 (by omega) (by rw [tdiv8 hs.1 hs.2, h.sg]; decide)
  refine ⟨⟨h1.sk, fun x hx => ?_, ?_, ?_⟩, h1.ok⟩
  · rw [h1.fr _ _ _ (by decide) (fun e => (List.nodup_cons.1 h.sk.nd).1 (by rw [← e.2.1]; exact hx))]
    exact h.hd x (by simp [hx])
  · rw [h1.fr _ _ _ (by decide) (by omega)]; exact h.sg
  · rw [h1.fr _ _ _ (by decide) (by omega)]; exact h.pk
/-- Seven slots are got. -/
structure ArB : Prop where
  m0 : MdOk (bmX 1)
  m1 : MdOk (mdX (bmX 1))
  m2 : MdOk (mdX (mdX (bmX 1)))
  m3 : MdOk (mdX (mdX (mdX (bmX 1))))
  m4 : MdOk (mdX (mdX (mdX (mdX (bmX 1)))))
  m5 : MdOk (mdX (mdX (mdX (mdX (mdX (bmX 1))))))
  m6 : MdOk (mdX (mdX (mdX (mdX (mdX (mdX (bmX 1)))))))
  ab : AB arB [0] 15
theorem arB_is : ArB := by
  obtain ⟨a1, m0⟩ := bg1_ab.made (by decide) (by decide) (by decide)
  obtain ⟨a2, m1⟩ := a1.made (by decide) (by decide) (by decide)
  obtain ⟨a3, m2⟩ := a2.made (by decide) (by decide) (by decide)
  obtain ⟨a4, m3⟩ := a3.made (by decide) (by decide) (by decide)
  obtain ⟨a5, m4⟩ := a4.made (by decide) (by decide) (by decide)
  obtain ⟨a6, m5⟩ := a5.made (by decide) (by decide) (by decide)
  obtain ⟨a7, m6⟩ := a6.made (by decide) (by decide) (by decide)
  exact ⟨m0, m1, m2, m3, m4, m5, m6, a7⟩
/-! ### round by round -/
structure AR (S : MS) (i : Int) : Prop where
  sk : SK S [0] (15 + 2 * i)
  hd : mget S.M (key 9 0 0) = hdr 0 i
  sg : mget S.M (key 6 0 0) = 1
  pk : mget S.M (key 6 0 1) = 0
structure ArR (S : MS) (i : Int) : Prop where
  ok : MdOk S
  es : mdS S = 0
  eg : mdG S = i
  u : U64 (mdX S)
  w : hdrG (mget (mdX S).M (key 9 (mdS S) 0)) = i
  sg : mget (fr2 S).M (key 6 (IntKind.i64.wrap ((mdS S).tdiv 8)) 0) = 1
  u3 : U64 (fr3 S)
  o1 : ¬ (psO1 (fr3 S) (mdS S)).ln = 0
  o2 : ¬ (psO2 (fr3 S) (mdS S)).ln = 0
  o3 : (psO3 (fr3 S) (mdS S)).ln = 0
  u4 : U64 (fr4 S)
  hs : Go.Ev.hdrS (mget (fr4 S).M (key 9 0 0)) = 0
  hg : hdrG (mget (fr4 S).M (key 9 0 0)) = i + 1
  next : AR (fr5 S) (i + 1)
  gc : casD (go2 S).M 6 (IntKind.i64.wrap ((mdS S).tdiv 8)) 1 (goP S) = true
  gu : U64 (go4 S)
  gs : Go.Ev.hdrS (mget (go4 S).M (key 9 0 0)) = 4
  gg : hdrG (mget (go4 S).M (key 9 0 0)) = i
  gk : mget (go5 S).M (key 6 0 1) = 1
  gn : MnOk (go5 S)
theorem AR.round {S : MS} {i : Int} (h : AR S i) (h0 : 0 ≤ i) (h1 : i < 1000) : ArR S i := by
  have hz : IntKind.i64.wrap ((0 : Int).tdiv 8) = 0 := rfl
  have m := md_is h.sk (by omega) (by omega) (by rw [hz, h.sg]; decide)
  have es : mdS S = 0 := m.es
  have hg0 : hdrG (mget S.M (key 9 0 0)) = i := by rw [h.hd]; exact hdrG_hdr (by decide) h0 (by omega)
  have hm : mget (mdX S).M (key 9 0 0) = hdr 1 i := by rw [m.hd, hg0]
  have hfg : frG S = i := by unfold frG; rw [es, hm]; exact hdrG_hdr (by decide) h0 (by omega)
  have hi1 : IntKind.u32.wrap (i + 1) = i + 1 := by show (i + 1) % 4294967296 = _; omega
  have e2 : fr2 S = mStore (fr1 S) 9 0 0 (hdr 0 (i + 1)) := by unfold fr2; rw [es, hfg, hi1]
  have r2 := hdr_r (s := 0) (g := i + 1) (by decide) (by omega) (by omega)
  have sk1 : SK (fr1 S) [] (15 + 2 * i + 1) := by unfold fr1; exact m.sk.load _ _ _
  have sk2 : SK (fr2 S) [] (15 + 2 * i + 1) := by rw [e2]; exact sk1.other (by decide) (by omega) r2
  have g2 : ∀ k a f, ¬ (k = 9 ∧ a = 0 ∧ f = 0) → mget (fr2 S).M (key k a f) = mget (mdX S).M (key k a f) := fun k a f hne => by
    rw [e2]
    show mget (memPut (mdX S).M 9 0 0 _) _ = _
    rw [put_ne hne]
  have w2 : mget (fr2 S).M (key 9 0 0) = hdr 0 (i + 1) := by
    rw [e2]
    show mget (memPut (mdX S).M 9 0 0 _) _ = _
    rw [put_eq may900]
  have sg1 : mget (mdX S).M (key 6 0 0) = 1 := by rw [m.fr _ _ _ (by decide) (by omega)]; exact h.sg
  have pk1 : mget (mdX S).M (key 6 0 1) = 0 := by rw [m.fr _ _ _ (by decide) (by omega)]; exact h.pk
  have sk3 : SK (fr3 S) [] (15 + 2 * i + 1) := by unfold fr3; exact sk2.load _ _ _
  have hp := sk3.push (s := 0) (by simp) (by decide) (by decide) (by omega) (by omega)
  have hp3 : (psO3 (fr3 S) 0).ln = 0 := hp.2
  have hsk4 : SK (fr4 S) [0] (15 + 2 * i + 1 + 1) := by unfold fr4; rw [es]; exact hp.1
  have w4 : mget (fr4 S).M (key 9 0 0) = hdr 0 (i + 1) := by
    unfold fr4; rw [es, psS3_get (by decide) (by omega)]; exact w2
  have hop := psO_lines sk3 (s := 0) (by simp) (by decide) (by decide) (by omega) (by omega)
  have eg2 : go2 S = mStore (fr1 S) 9 0 0 (hdr 4 i) := by unfold go2; rw [es, hfg]
  have rg := hdr_r (s := 4) (g := i) (by decide) (by omega) (by omega)
  have skg2 : SK (go2 S) [] (15 + 2 * i + 1) := by rw [eg2]; exact sk1.other (by decide) (by omega) rg
  have wg2 : mget (go2 S).M (key 9 0 0) = hdr 4 i := by
    rw [eg2]
    show mget (memPut (mdX S).M 9 0 0 _) _ = _
    rw [put_eq may900]
  have pg2 : goP S = 0 := by
    unfold goP; rw [es, hz, eg2]
    show mget (memPut (mdX S).M 9 0 0 _) _ = _
    rw [put_ne (by omega)]; exact pk1
  have hcd : casD (go2 S).M 6 0 1 0 = true := by
    unfold casD
    have : mget (go2 S).M (key 6 0 1) = 0 := by have := pg2; unfold goP at this; rw [es, hz] at this; exact this
    rw [this]; decide
  have eg4 : go4 S = mCas (go3 S) 6 0 1 0 1 := by
    unfold go4; rw [es, hz, pg2]; rfl
  have mg4 : (go4 S).M = memPut (go2 S).M 6 0 1 1 := by
    rw [eg4]
    show casM (go2 S).M 6 0 1 0 1 = _
    rw [casM_put, if_pos hcd]
  have ug4 : U64 (go4 S) := by rw [eg4]; exact (skg2.u.load _ _ _).cas _ _ _ _ _ (by decide)
  have wg4 : mget (go4 S).M (key 9 0 0) = hdr 4 i := by rw [mg4, put_ne (by omega)]; exact wg2
  have skg5 : SK (go5 S) [] (15 + 2 * i + 1) := by
    unfold go5
    refine SK.load (S := go4 S) (l := []) ⟨ug4, ?_, trivial, by simp, by simp⟩ _ _ _
    rw [mg4, put_ne (by omega)]; exact skg2.hd
  have e5 : 15 + 2 * i + 1 + 1 = 15 + 2 * (i + 1) := by omega
  refine ⟨m.ok, es, by rw [m.eg]; exact hg0, m.sk.u, hfg, ?_, sk3.u, by rw [es]; exact hop.1, by rw [es]; exact hop.2, by rw [es]; exact hp3, hsk4.u, ?_, ?_, ⟨?_, ?_, ?_, ?_⟩, by rw [es, hz, pg2]; exact hcd, ug4, ?_, ?_, ?_, mn_ok skg5⟩
  · rw [es, hz, g2 _ _ _ (by omega)]; exact sg1
  · rw [w4]; exact hdrS_hdr (by decide) (by decide) (by omega)
  · rw [w4]; exact hdrG_hdr (by decide) (by omega) (by omega)
  · rw [← e5]; exact hsk4.load _ _ _
  · exact w4
  · show mget (fr4 S).M _ = _
    unfold fr4; rw [es, psS3_get (by decide) (by omega)]
    show mget (fr2 S).M _ = _
    rw [g2 _ _ _ (by omega)]; exact sg1
  · show mget (fr4 S).M _ = _
    unfold fr4; rw [es, psS3_get (by decide) (by omega)]
    show mget (fr2 S).M _ = _
    rw [g2 _ _ _ (by omega)]; exact pk1
  · rw [wg4]; exact hdrS_hdr (by decide) (by decide) (by omega)
  · rw [wg4]; exact hdrG_hdr (by decide) (by omega) (by omega)
  · show mget (go4 S).M _ = _
    rw [mg4, put_eq may601]
theorem ar0 : AR arB 0 := by
  have h := arB_is.ab
  exact ⟨h.sk, h.hd 0 (by simp), h.sg, h.pk⟩
theorem arM_ar {w : Int} (h1 : w < 50) : ∀ i : Nat, (i : Int) ≤ w → AR (arM w i) i
  | 0, _ => ar0
  | i + 1, hi => by
    have ih := arM_ar h1 i (by omega)
    have r := (ih.round (by omega) (by omega)).next
    have e : arM w (i + 1) = fr5 (arM w i) := by show (if (i : Int) < w then _ else _) = _; rw [if_pos (by omega), frX_eq]
    rw [e]; exact r
theorem arM_f {w : Int} {i : Nat} (h : (i : Int) < w) : arM w (i + 1) = fr5 (arM w i) := by
  show (if (i : Int) < w then _ else _) = _; rw [if_pos h, frX_eq]
theorem arM_g {w : Int} {i : Nat} (h : ¬ (i : Int) < w) : arM w (i + 1) = go5 (arM w i) := by
  show (if (i : Int) < w then _ else _) = _; rw [if_neg h, goX_eq]
end Go.Proofs.YtmndhjodbnojdaaDoor
