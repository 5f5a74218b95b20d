/-
  For all inputs, FreesStack returns true; its arguments read as before. No condition.
-/
import Derived.Test.YtmndhjodbnojdaaDoorJFkzDef
import Derived.Test.YtmndhjodbnojdaaDoorTie
import Derived.Test.YtmndhjodbnojdaaDoorCards
import Derived.LaidMore
import Derived.ChangeMaps5
import Derived.OpenShut
import Derived.SevenTiedAt
set_option linter.unusedSimpArgs false
set_option linter.unusedVariables false
namespace Go.Proofs.YtmndhjodbnojdaaDoor
open Go.Ev Go.ChangeShapes Go.WideShapes Go.ChangeAt Go.RowKit
set_option maxRecDepth 100000
theorem fg_1 (m : Nat) (f : Nat → Nat → AV) : (callF EFl 6000 3 [AV.ss 1 1 0 m none] ⟨(tabsH [(0, tab)] ++ [(1, AO.arr 1 [CK.int IntKind.u8] true m f)]), 2, gnm 0, [Hint.b true], [], [], false⟩).map (fun x => (x.1, x.2.ob, noneIn (tabsH [(0, tab)] ++ [(1, AO.arr 1 [CK.int IntKind.u8] true m f)]) x.2.wr)) =
 some (AV.bool true, [TabIs tab (tabF tab),
 decide (Int.ofNat m > 60) = true], true) := by kernel_rfl
theorem fh_1 (m : Nat) (f : Nat → Nat → AV) : (callF EFl 6000 3 [AV.ss 1 1 0 m none] ⟨(tabsH [(0, tab)] ++ [(1, AO.arr 1 [CK.int IntKind.u8] true m f)]), 2, gnm 0, [Hint.b false, Hint.lp [0, 2, 3, 4] (Ex.exit 0) (fkaX m f m).tmps (fkaX m f m).hp.heap 3 [], Hint.lp [2, 3, 7, 8] (Ex.exit 4) (fkpX m f (ddN f m).length (LI (ddN f m)) (ddN f m).length).tmps (fkpX m f (ddN f m).length (LI (ddN f m)) (ddN f m).length).hp.heap 5 [4, 3], Hint.b false, Hint.lp [2, 3, 7, 28] (Ex.exit 16) (fkdX (ddN f m).length (ddN f m).length (LI (ddN f m)) (fm0 (ddN f m).length (LI (ddN f m))) (ddN f m).length).tmps (fkdX (ddN f m).length (ddN f m).length (LI (ddN f m)) (fm0 (ddN f m).length (LI (ddN f m))) (ddN f m).length).hp.heap 5 [4, 3]], [], [], false⟩).map (fun x => (x.1, x.2.ob, noneIn (tabsH [(0, tab)] ++ [(1, AO.arr 1 [CK.int IntKind.u8] true m f)]) x.2.wr)) =
 some (AV.bool true, [TabIs tab (tabF tab),
 fkdLP (ddN f m).length (ddN f m).length (LI (ddN f m)) (fm0 (ddN f m).length (LI (ddN f m))),
 decide (Int.ofNat (ddN f m).length > 1) = false,
 fkpLP m f (ddN f m).length (LI (ddN f m)),
 fkaLP m f,
 decide (Int.ofNat m > 60) = false], true) := by kernel_rfl
theorem fe_1 (m : Nat) (f : Nat → Nat → AV) : (callF EFl 6000 3 [AV.ss 1 1 0 m none] ⟨(tabsH [(0, tab)] ++ [(1, AO.arr 1 [CK.int IntKind.u8] true m f)]), 2, gnm 0, [Hint.b false, Hint.lp [0, 2, 3, 4] (Ex.exit 0) (fkaX m f m).tmps (fkaX m f m).hp.heap 3 [], Hint.lp [2, 3, 7, 8] (Ex.exit 4) (fkpX m f (ddN f m).length (LI (ddN f m)) (ddN f m).length).tmps (fkpX m f (ddN f m).length (LI (ddN f m)) (ddN f m).length).hp.heap 5 [4, 3], Hint.b true, Hint.b false, Hint.b false, Hint.a AV.top, Hint.b false, Hint.b false, Hint.b false, Hint.b false, Hint.b false, Hint.a AV.top, Hint.b false, Hint.lp [2, 3, 7, 28] (Ex.exit 16) (fkeX (ddN f m).length (fmK (ddN f m).length) (LI (ddN f m)) (fm6 (ddN f m).length (LI (ddN f m))) (fmO3 (ddN f m).length (LI (ddN f m))) (fmP (ddN f m).length (LI (ddN f m))) (fmQ (ddN f m).length (LI (ddN f m))) (fmB (ddN f m).length (LI (ddN f m))) (fmA (ddN f m).length (LI (ddN f m))) (fmK (ddN f m).length)).tmps (fkeX (ddN f m).length (fmK (ddN f m).length) (LI (ddN f m)) (fm6 (ddN f m).length (LI (ddN f m))) (fmO3 (ddN f m).length (LI (ddN f m))) (fmP (ddN f m).length (LI (ddN f m))) (fmQ (ddN f m).length (LI (ddN f m))) (fmB (ddN f m).length (LI (ddN f m))) (fmA (ddN f m).length (LI (ddN f m))) (fmK (ddN f m).length)).hp.heap 6136670912874273844042209381423295534262744420288187202939989966700104950239495246519741634385407946643773617249971327143673958682954977822289197793280 [6136670912874273844042209381423295534262744420288187202939989966700104950239495246519741634385407946643773617249971327143673958682954977822289197793279, 4091426085015145738293348961311519623640227697739564489739028294424204708331961217042075584797073847241492372466337948099232025884788812488130030469118, 7, 6, 5, 4, 3]], [], [], false⟩).map (fun x => (x.1, x.2.ob, noneIn (tabsH [(0, tab)] ++ [(1, AO.arr 1 [CK.int IntKind.u8] true m f)]) x.2.wr)) =
 some (AV.bool true, [TabIs tab (tabF tab),
 fkeLP (ddN f m).length (fmK (ddN f m).length) (LI (ddN f m)) (fm6 (ddN f m).length (LI (ddN f m))) (fmO3 (ddN f m).length (LI (ddN f m))) (fmP (ddN f m).length (LI (ddN f m))) (fmQ (ddN f m).length (LI (ddN f m))) (fmB (ddN f m).length (LI (ddN f m))) (fmA (ddN f m).length (LI (ddN f m))),
 (Nat.blt 0 (capOr none (ddN f m).length) || Nat.beq 0 0) = true,
 ((IntKind.i64.wrap (Int.ofNat (ddN f m).length - 2)).toNat.ble (capOr none (ddN f m).length) && decide (0 ≤ IntKind.i64.wrap (Int.ofNat (ddN f m).length - 2))) = true,
 (hTag (mget (ppS3 (popY (psS3 (fm2 (ddN f m).length (LI (ddN f m))) (fmP (ddN f m).length (LI (ddN f m))).sl) (fmO (ddN f m).length (LI (ddN f m))))).M (key 0 0 0)) != IntKind.u64.wrap (IntKind.i64.wrap (Int.ofNat (ddN f m).length + 4))) = false,
 TabIs tab (tabF tab),
 0 ≤ mget (ppS3 (popY (psS3 (fm2 (ddN f m).length (LI (ddN f m))) (fmP (ddN f m).length (LI (ddN f m))).sl) (fmO (ddN f m).length (LI (ddN f m))))).M (key 0 0 0),
 mget (ppS3 (popY (psS3 (fm2 (ddN f m).length (LI (ddN f m))) (fmP (ddN f m).length (LI (ddN f m))).sl) (fmO (ddN f m).length (LI (ddN f m))))).M (key 0 0 0) < 18446744073709551616,
 tabF tab = tabF tab,
 U64 (ppS2 (popY (psS3 (fm2 (ddN f m).length (LI (ddN f m))) (fmP (ddN f m).length (LI (ddN f m))).sl) (fmO (ddN f m).length (LI (ddN f m))))),
 Ln3 (ppO2 (popY (psS3 (fm2 (ddN f m).length (LI (ddN f m))) (fmP (ddN f m).length (LI (ddN f m))).sl) (fmO (ddN f m).length (LI (ddN f m))))).ln,
 R64 (ppO2 (popY (psS3 (fm2 (ddN f m).length (LI (ddN f m))) (fmP (ddN f m).length (LI (ddN f m))).sl) (fmO (ddN f m).length (LI (ddN f m))))).h,
 tabF tab = tabF tab,
 U64 (ppS1 (popY (psS3 (fm2 (ddN f m).length (LI (ddN f m))) (fmP (ddN f m).length (LI (ddN f m))).sl) (fmO (ddN f m).length (LI (ddN f m))))),
 Ln3 (ppO1 (popY (psS3 (fm2 (ddN f m).length (LI (ddN f m))) (fmP (ddN f m).length (LI (ddN f m))).sl) (fmO (ddN f m).length (LI (ddN f m))))).ln,
 R64 (ppO1 (popY (psS3 (fm2 (ddN f m).length (LI (ddN f m))) (fmP (ddN f m).length (LI (ddN f m))).sl) (fmO (ddN f m).length (LI (ddN f m))))).h,
 tabF tab = tabF tab,
 U64 (popY (psS3 (fm2 (ddN f m).length (LI (ddN f m))) (fmP (ddN f m).length (LI (ddN f m))).sl) (fmO (ddN f m).length (LI (ddN f m)))),
 Ln3 1,
 R64 0,
 ((fmQ (ddN f m).length (LI (ddN f m))).sl != LI (ddN f m) (0 + (IntKind.i64.wrap (Int.ofNat (ddN f m).length - 2)).toNat)) = false,
 (0 + (IntKind.i64.wrap (Int.ofNat (ddN f m).length - 2)).toNat).blt (ddN f m).length = true,
 ((IntKind.i64.wrap (Int.ofNat (ddN f m).length - 2)).toNat.blt (ddN f m).length && decide (0 ≤ IntKind.i64.wrap (Int.ofNat (ddN f m).length - 2))) = true,
 (fmO (ddN f m).length (LI (ddN f m))).ok = false,
 decide ((popX (psS3 (fm2 (ddN f m).length (LI (ddN f m))) (fmP (ddN f m).length (LI (ddN f m))).sl) (fmO (ddN f m).length (LI (ddN f m)))).ln = 0) = false,
 tabF tab = tabF tab,
 U64 (psS3 (fm2 (ddN f m).length (LI (ddN f m))) (fmP (ddN f m).length (LI (ddN f m))).sl),
 Ln3 (fmO (ddN f m).length (LI (ddN f m))).ln,
 R64 (fmO (ddN f m).length (LI (ddN f m))).h,
 (!(fmQ (ddN f m).length (LI (ddN f m))).ok) = false,
 (!(fmP (ddN f m).length (LI (ddN f m))).ok) = false,
 tabF tab = tabF tab,
 U64 (psS2 (fm2 (ddN f m).length (LI (ddN f m))) (fmP (ddN f m).length (LI (ddN f m))).sl),
 Ln3 (psO2 (fm2 (ddN f m).length (LI (ddN f m))) (fmP (ddN f m).length (LI (ddN f m))).sl).ln,
 R64 (psO2 (fm2 (ddN f m).length (LI (ddN f m))) (fmP (ddN f m).length (LI (ddN f m))).sl).h,
 tabF tab = tabF tab,
 U64 (psS1 (fm2 (ddN f m).length (LI (ddN f m))) (fmP (ddN f m).length (LI (ddN f m))).sl),
 Ln3 (psO1 (fm2 (ddN f m).length (LI (ddN f m))) (fmP (ddN f m).length (LI (ddN f m))).sl).ln,
 R64 (psO1 (fm2 (ddN f m).length (LI (ddN f m))) (fmP (ddN f m).length (LI (ddN f m))).sl).h,
 tabF tab = tabF tab,
 U64 (fm2 (ddN f m).length (LI (ddN f m))),
 Ln3 1,
 R64 0,
 decide ((fmP (ddN f m).length (LI (ddN f m))).sl ≥ 256) = false,
 decide ((fmP (ddN f m).length (LI (ddN f m))).sl < 0) = false,
 tabF tab = tabF tab,
 U64 (ppS2 (fm1 (ddN f m).length (LI (ddN f m)))),
 Ln3 (ppO2 (fm1 (ddN f m).length (LI (ddN f m)))).ln,
 R64 (ppO2 (fm1 (ddN f m).length (LI (ddN f m)))).h,
 tabF tab = tabF tab,
 U64 (ppS1 (fm1 (ddN f m).length (LI (ddN f m)))),
 Ln3 (ppO1 (fm1 (ddN f m).length (LI (ddN f m)))).ln,
 R64 (ppO1 (fm1 (ddN f m).length (LI (ddN f m)))).h,
 tabF tab = tabF tab,
 U64 (fm1 (ddN f m).length (LI (ddN f m))),
 Ln3 1,
 R64 0,
 tabF tab = tabF tab,
 U64 (ppS2 (ppS2 (fm0 (ddN f m).length (LI (ddN f m))))),
 Ln3 (ppO2 (ppS2 (fm0 (ddN f m).length (LI (ddN f m))))).ln,
 R64 (ppO2 (ppS2 (fm0 (ddN f m).length (LI (ddN f m))))).h,
 tabF tab = tabF tab,
 U64 (ppS1 (ppS2 (fm0 (ddN f m).length (LI (ddN f m))))),
 Ln3 (ppO1 (ppS2 (fm0 (ddN f m).length (LI (ddN f m))))).ln,
 R64 (ppO1 (ppS2 (fm0 (ddN f m).length (LI (ddN f m))))).h,
 tabF tab = tabF tab,
 U64 (ppS2 (fm0 (ddN f m).length (LI (ddN f m)))),
 Ln3 1,
 R64 0,
 tabF tab = tabF tab,
 U64 (ppS1 (fm0 (ddN f m).length (LI (ddN f m)))),
 Ln3 (ppO1 (fm0 (ddN f m).length (LI (ddN f m)))).ln,
 R64 (ppO1 (fm0 (ddN f m).length (LI (ddN f m)))).h,
 tabF tab = tabF tab,
 U64 (fm0 (ddN f m).length (LI (ddN f m))),
 Ln3 1,
 R64 0,
 decide (Int.ofNat (ddN f m).length > 1) = true,
 fkpLP m f (ddN f m).length (LI (ddN f m)),
 fkaLP m f,
 decide (Int.ofNat m > 60) = false], true) := by kernel_rfl
theorem had_true {E : Nat → Int} {x : Int} : ∀ k, hadB E x k = true ↔ ∃ i, i < k ∧ E i = x
  | 0 => by simp [hadB]
  | k + 1 => by
    have ih := had_true (E := E) (x := x) k
    simp only [hadB]
    cases h : hadB E x k with
    | true =>
      obtain ⟨i, hi, e⟩ := ih.1 h
      simp only [true_iff]
      exact ⟨i, by omega, e⟩
    | false =>
      simp only [Nat.zero_add, beq_iff_eq]
      constructor
      · exact fun e => ⟨k, by omega, e⟩
      · rintro ⟨i, hi, e⟩
        by_cases c : i = k
        · subst c; exact e
        · exact absurd (ih.2 ⟨i, by omega, e⟩) (by rw [h]; decide)
theorem LI_get {L : List Int} {i : Nat} (h : i < L.length) : LI L i = L[i] := by rw [LI_def]; simp [List.getD, h]
theorem ddN_nd (f : Nat → Nat → AV) : ∀ i, (∀ k, k < i → 0 ≤ avInt (f k 0) ∧ avInt (f k 0) < 256) → (ddN f i).Nodup ∧ ∀ x ∈ ddN f i, 0 ≤ x ∧ x < 256
  | 0, _ => ⟨List.nodup_nil, by simp [ddN]⟩
  | i + 1, hr => by
    obtain ⟨h1, h2⟩ := ddN_nd f i (fun k hk => hr k (by omega))
    have hx := hr i (by omega)
    have ew : IntKind.i64.wrap (avInt (f (0 + i) 0)) = avInt (f i 0) := by rw [Nat.zero_add]; exact i64w (by omega) (by omega)
    cases h : hadB (LI (ddN f i)) (IntKind.i64.wrap (avInt (f (0 + i) 0))) (ddN f i).length with
    | true => rw [ddN_t h]; exact ⟨h1, h2⟩
    | false =>
      rw [ddN_f h, ew]
      have hno : avInt (f i 0) ∉ ddN f i := fun hm => by
        obtain ⟨k, hk, e⟩ := List.getElem_of_mem hm
        have := (had_true (E := LI (ddN f i)) (x := IntKind.i64.wrap (avInt (f (0 + i) 0))) _).2 ⟨k, hk, by rw [LI_get hk, e, ew]⟩
        rw [h] at this; cases this
      refine ⟨?_, fun x hx' => ?_⟩
      · rw [List.nodup_append]
        refine ⟨h1, by simp, fun a ha b hb => ?_⟩
        simp at hb; subst hb
        exact fun e => hno (by rw [← e]; exact ha)
      · simp at hx'
        rcases hx' with hx' | rfl
        · exact h2 x hx'
        · exact hx
theorem fkS_sk {L : List Int} (hn : L.Nodup) (hr : ∀ x ∈ L, 0 ≤ x ∧ x < 256) (hl : L.length ≤ 1000) : ∀ i, i ≤ L.length → SK (fkS (LI L) i) (L.take i).reverse i
  | 0, _ => SK.nil
  | i + 1, h => by
    have ih := fkS_sk hn hr hl i (by omega)
    have hi : i < L.length := by omega
    have e : (L.take (i + 1)).reverse = L[i] :: (L.take i).reverse := by rw [List.take_succ_eq_append_getElem hi]; simp
    have hx := hr L[i] (List.getElem_mem hi)
    have hno : L[i] ∉ (L.take i).reverse := fun hm => by
      rw [List.mem_reverse] at hm
      obtain ⟨k, hk, ek⟩ := List.getElem_of_mem hm
      rw [List.length_take] at hk
      rw [List.getElem_take] at ek
      have := (List.getElem_inj (h₀ := by omega) (h₁ := hi) hn).1 ek
      omega
    have := ih.push hno hx.1 hx.2 (by omega) (by omega)
    rw [e]
    show SK (psS3 _ (LI L (0 + i))) _ _
    rw [Nat.zero_add, LI_get hi]
    exact this.1
theorem fkD_sk {S : MS} {l : List Int} {t : Int} (h : SK S l t) (ht : 0 ≤ t) (hl : t + l.length < 100000) : ∀ i, i ≤ l.length → SK (fkD S i) (l.drop i) (t + i)
  | 0, _ => by
    have e : t + ((0 : Nat) : Int) = t := by omega
    rw [e]; exact h
  | i + 1, hi => by
    have ih := fkD_sk h ht hl i (by omega)
    have hi' : i < l.length := by omega
    rw [List.drop_eq_getElem_cons hi'] at ih
    have := (ih.pop (by omega) (by omega)).1
    have e : t + ((i + 1 : Nat) : Int) = t + i + 1 := by omega
    rw [e]; exact this
theorem fkD_got {S : MS} {l : List Int} {t : Int} (h : SK S l t) (ht : 0 ≤ t) (hl : t + l.length < 100000) (i : Nat) (hi : i < l.length) : (ppO3 (fkD S i)).ok = true ∧ (ppO3 (fkD S i)).sl = l[i] := by
  have ih := fkD_sk h ht hl i (by omega)
  rw [List.drop_eq_getElem_cons hi] at ih
  have := (ih.pop (by omega) (by omega)).2
  rw [this]; exact ⟨rfl, rfl⟩
structure Mid (n : Nat) (E : Nat → Int) (x y : Int) (l : List Int) (t : Int) : Prop where
  o : (fmO n E).ok = false
  p : (fmP n E).ok = true
  px : (fmP n E).sl = x
  q : (fmQ n E).ok = true
  qy : (fmQ n E).sl = y
  o3 : ¬ (fmO3 n E).ln = 0
  tag : hTag (mget (fm5 n E).M (key 0 0 0)) = t + 4
  sk : SK (fm6 n E) l (t + 4)
theorem mid {n : Nat} {E : Nat → Int} {x y : Int} {l : List Int} {t : Int} (h : SK (fm0 n E) (x :: y :: l) t) (ht0 : 0 ≤ t) (ht : t < 100000) : Mid n E x y l t := by
  obtain ⟨h2, eo⟩ := h.pop2
  have hx := h.r x (by simp)
  obtain ⟨h3, ep⟩ := h2.pop ht0 (by omega)
  obtain ⟨h4, eq⟩ := h3.pop (by omega) (by omega)
  have ep : fmP n E = ⟨0, hHead x t, y, x, true⟩ := ep
  have eq : fmQ n E = ⟨0, hHead y (t + 1), top l, y, true⟩ := eq
  have eo : fmO n E = ⟨3, hHead x t, y, 0, false⟩ := eo
  have hno : x ∉ l := fun hm => by have := (List.nodup_cons.1 h.nd).1; exact this (by simp [hm])
  have h5 : SK (fm3 n E) (x :: l) (t + 1 + 1 + 1) := by
    unfold fm3; rw [ep]
    exact (SK.push (S := fm2 n E) h4 hno hx.1 hx.2 (by omega) (by omega)).1
  have hne : hHead x t ≠ hHead (top (x :: l)) (t + 1 + 1 + 1) := head_ne (by omega) (by omega) (by omega) (by omega) (by omega)
  obtain ⟨h6, hc⟩ := h5.casNo (v := hHead y (IntKind.u64.wrap (hTag (hHead x t) + 1))) hne (hHead_r _ _)
  have e4 : SK (fm4 n E) (x :: l) (t + 1 + 1 + 1) := by unfold fm4; rw [eo, popY_eq]; exact h6
  obtain ⟨h7, -⟩ := e4.pop (by omega) (by omega)
  have h7 : SK (fm5 n E) l (t + 4) := by have e : t + 4 = t + 1 + 1 + 1 + 1 := by omega
                                         rw [e]; exact h7
  refine ⟨by rw [eo], by rw [ep], by rw [ep], by rw [eq], by rw [eq], ?_, ?_, h7.load 0 0 0⟩
  · unfold fmO3; rw [eo, popX_eq, popO_3b (by rw [hc]; decide)]; simp
  · rw [h7.hd]; exact hTag_head (by omega) (by omega)

theorem rev_get {L : List Int} {k i : Nat} (hk : k ≤ L.length) (hi : i < k) : (L.take k).reverse[i]'(by simp; omega) = LI L (0 + (Int.ofNat k - 1 - Int.ofNat i).toNat) := by
  have e : (Int.ofNat k - 1 - Int.ofNat i).toNat = k - 1 - i := by show ((k : Int) - 1 - (i : Int)).toNat = _; omega
  rw [e, Nat.zero_add, LI_get (by omega), List.getElem_reverse, List.getElem_take]
  congr 1
  simp [List.length_take] <;> omega
theorem fk_runs (m : Nat) (f : Nat → Nat → AV) (hr : ∀ i, i < m → 0 ≤ avInt (f i 0) ∧ avInt (f i 0) < 256) : Runs (fkRun m f) := by
  by_cases hm : m > 60
  ·
    refine ⟨_, _, _, fg_1 m f, .inl rfl, (ob_cons (tabIs_self _) (ob_cons ?_ ob_nil))⟩
    · (simp; omega)
  obtain ⟨hnd, hLr⟩ := ddN_nd f m hr
  have hlen := ddN_len f m
  have hL : ∃ L, L = ddN f m := ⟨_, rfl⟩
  have hla : fkaLP m f := fka_lp m f (by omega)
  have hE : ∀ i, i < (ddN f m).length → 0 ≤ LI (ddN f m) i ∧ LI (ddN f m) i < 256 := fun i hi => by rw [LI_get hi]; exact hLr _ (List.getElem_mem hi)
  have hlp : fkpLP m f (ddN f m).length (LI (ddN f m)) := fkp_lp m f _ _ (by omega) hE
  have hsk := fkS_sk hnd hLr (by omega) _ (Nat.le_refl (ddN f m).length)
  rw [List.take_length] at hsk
  by_cases hn : (ddN f m).length > 1
  · have hU0 : U64 (fm0 (ddN f m).length (LI (ddN f m))) := hsk.u
    have hk2 : (ddN f m).length - 2 ≤ (ddN f m).length := by omega
    have hw : IntKind.i64.wrap (Int.ofNat (ddN f m).length - 2) = Int.ofNat ((ddN f m).length - 2) := by rw [i64w (by simp; omega) (by simp; omega)]; simp; omega
    have hK : fmK (ddN f m).length = (ddN f m).length - 2 := by unfold fmK; rw [hw]; simp
    have hsp : (ddN f m).reverse = LI (ddN f m) ((ddN f m).length - 1) :: LI (ddN f m) ((ddN f m).length - 2) :: ((ddN f m).take ((ddN f m).length - 2)).reverse := by
      have e : ddN f m = (ddN f m).take ((ddN f m).length - 2) ++ [LI (ddN f m) ((ddN f m).length - 2), LI (ddN f m) ((ddN f m).length - 1)] := by
        rw [LI_get (by omega), LI_get (by omega)]
        apply List.ext_getElem
        · simp; omega
        · intro i h1 h2
          by_cases c : i < (ddN f m).length - 2
          · rw [List.getElem_append_left (by simp; omega), List.getElem_take]
          · rw [List.getElem_append_right (by simp; omega)]
            by_cases d : i = (ddN f m).length - 2
            · subst d; simp
            · have d2 : i = (ddN f m).length - 1 := by omega
              subst d2
              have z : (ddN f m).length - 1 - ((ddN f m).take ((ddN f m).length - 2)).length = 1 := by simp; omega
              simp only [z]; rfl
      have := congrArg List.reverse e
      rw [List.reverse_append] at this
      exact this
    rw [hsp] at hsk
    have hM := mid (n := (ddN f m).length) (E := LI (ddN f m)) hsk (by omega) (by omega)
    have hx := hsk.r _ (List.mem_cons_self ..)
    have hA0 : ¬ (fmP (ddN f m).length (LI (ddN f m))).sl < 0 := by rw [hM.px]; omega
    have hA1 : ¬ (fmP (ddN f m).length (LI (ddN f m))).sl ≥ 256 := by rw [hM.px]; omega
    have hQ : (fmQ (ddN f m).length (LI (ddN f m))).sl = LI (ddN f m) (0 + (IntKind.i64.wrap (Int.ofNat (ddN f m).length - 2)).toNat) := by
      rw [hM.qy, hw, Nat.zero_add]; rfl
    have hT : hTag (mget (fm5 (ddN f m).length (LI (ddN f m))).M (key 0 0 0)) = IntKind.u64.wrap (IntKind.i64.wrap (Int.ofNat (ddN f m).length + 4)) := by
      rw [hM.tag, i64w (by simp; omega) (by simp; omega), u64_wrap (by simp; omega) (by simp; omega)]; rfl
    have hU5 : U64 (fm5 (ddN f m).length (LI (ddN f m))) := hM.sk.u
    have hskl : ((ddN f m).take ((ddN f m).length - 2)).reverse.length = (ddN f m).length - 2 := by rw [List.length_reverse, List.length_take]; omega
    have hgot := fkD_got hM.sk (by omega) (by first | (rw [hskl]; omega) | omega)
    have hle := fke_lp (ddN f m).length (fmK (ddN f m).length) (LI (ddN f m)) (fm6 (ddN f m).length (LI (ddN f m))) (fmO3 (ddN f m).length (LI (ddN f m))) (fmP (ddN f m).length (LI (ddN f m))) (fmQ (ddN f m).length (LI (ddN f m))) (fmB (ddN f m).length (LI (ddN f m))) (fmA (ddN f m).length (LI (ddN f m))) (by omega) (by omega) hM.sk.u (fun i hi => by
      rw [hK] at hi ⊢
      have := hgot i (by rw [hskl]; exact hi)
      rw [rev_get hk2 hi] at this; exact this)
    refine ⟨_, _, _, fe_1 m f, .inl rfl, (ob_cons (tabIs_self _) (ob_cons ?_ (ob_cons ?_ (ob_cons ?_ (ob_cons ?_ (ob_cons (tabIs_self _) (ob_cons ?_ (ob_cons ?_ (ob_cons rfl (ob_cons ?_ (ob_cons ?_ (ob_cons ?_ (ob_cons rfl (ob_cons ?_ (ob_cons ?_ (ob_cons ?_ (ob_cons rfl (ob_cons ?_ (ob_cons ?_ (ob_cons ?_ (ob_cons ?_ (ob_cons ?_ (ob_cons ?_ (ob_cons ?_ (ob_cons ?_ (ob_cons rfl (ob_cons ?_ (ob_cons ?_ (ob_cons ?_ (ob_cons ?_ (ob_cons ?_ (ob_cons rfl (ob_cons ?_ (ob_cons ?_ (ob_cons ?_ (ob_cons rfl (ob_cons ?_ (ob_cons ?_ (ob_cons ?_ (ob_cons rfl (ob_cons ?_ (ob_cons ?_ (ob_cons ?_ (ob_cons ?_ (ob_cons ?_ (ob_cons rfl (ob_cons ?_ (ob_cons ?_ (ob_cons ?_ (ob_cons rfl (ob_cons ?_ (ob_cons ?_ (ob_cons ?_ (ob_cons rfl (ob_cons ?_ (ob_cons ?_ (ob_cons ?_ (ob_cons rfl (ob_cons ?_ (ob_cons ?_ (ob_cons ?_ (ob_cons rfl (ob_cons ?_ (ob_cons ?_ (ob_cons ?_ (ob_cons rfl (ob_cons ?_ (ob_cons ?_ (ob_cons ?_ (ob_cons rfl (ob_cons ?_ (ob_cons ?_ (ob_cons ?_ (ob_cons rfl (ob_cons ?_ (ob_cons ?_ (ob_cons ?_ (ob_cons ?_ (ob_cons ?_ (ob_cons ?_ (ob_cons ?_ ob_nil)))))))))))))))))))))))))))))))))))))))))))))))))))))))))))))))))))))))))))))))))⟩
    · with_reducible assumption
    · (simp; done)
    · (rw [hw]; simp [capOr]; done)
    · exact bne_f hT
    · exact (hU5 _).1
    · exact (hU5 _).2
    · ((repeat (first | with_reducible exact hU0 | refine popY_u ?_ | refine pshY_u ?_)); done)
    · exact (popX_ok (by (repeat (first | with_reducible exact hU0 | refine popY_u ?_ | refine pshY_u ?_))) (popX_ok (by (repeat (first | with_reducible exact hU0 | refine popY_u ?_ | refine pshY_u ?_))) po0_ok)).l
    · exact (popX_ok (by (repeat (first | with_reducible exact hU0 | refine popY_u ?_ | refine pshY_u ?_))) (popX_ok (by (repeat (first | with_reducible exact hU0 | refine popY_u ?_ | refine pshY_u ?_))) po0_ok)).h
    · ((repeat (first | with_reducible exact hU0 | refine popY_u ?_ | refine pshY_u ?_)); done)
    · exact (popX_ok (by (repeat (first | with_reducible exact hU0 | refine popY_u ?_ | refine pshY_u ?_))) po0_ok).l
    · exact (popX_ok (by (repeat (first | with_reducible exact hU0 | refine popY_u ?_ | refine pshY_u ?_))) po0_ok).h
    · ((repeat (first | with_reducible exact hU0 | refine popY_u ?_ | refine pshY_u ?_)); done)
    · exact .inr (.inl rfl)
    · exact z0
    · exact bne_f hQ
    · (rw [hw]; simp [capOr]; omega)
    · (rw [hw]; simp [capOr]; omega)
    · exact hM.o
    · exact decide_eq_false hM.o3
    · ((repeat (first | with_reducible exact hU0 | refine popY_u ?_ | refine pshY_u ?_)); done)
    · exact (popX_ok (by (repeat (first | with_reducible exact hU0 | refine popY_u ?_ | refine pshY_u ?_))) (popX_ok (by (repeat (first | with_reducible exact hU0 | refine popY_u ?_ | refine pshY_u ?_))) po0_ok)).l
    · exact (popX_ok (by (repeat (first | with_reducible exact hU0 | refine popY_u ?_ | refine pshY_u ?_))) (popX_ok (by (repeat (first | with_reducible exact hU0 | refine popY_u ?_ | refine pshY_u ?_))) po0_ok)).h
    · exact not_f hM.q
    · exact not_f hM.p
    · ((repeat (first | with_reducible exact hU0 | refine popY_u ?_ | refine pshY_u ?_)); done)
    · exact (pshX_ok (by (repeat (first | with_reducible exact hU0 | refine popY_u ?_ | refine pshY_u ?_))) (pshX_ok (by (repeat (first | with_reducible exact hU0 | refine popY_u ?_ | refine pshY_u ?_))) (uo0_ok _))).l
    · exact (pshX_ok (by (repeat (first | with_reducible exact hU0 | refine popY_u ?_ | refine pshY_u ?_))) (pshX_ok (by (repeat (first | with_reducible exact hU0 | refine popY_u ?_ | refine pshY_u ?_))) (uo0_ok _))).h
    · ((repeat (first | with_reducible exact hU0 | refine popY_u ?_ | refine pshY_u ?_)); done)
    · exact (pshX_ok (by (repeat (first | with_reducible exact hU0 | refine popY_u ?_ | refine pshY_u ?_))) (uo0_ok _)).l
    · exact (pshX_ok (by (repeat (first | with_reducible exact hU0 | refine popY_u ?_ | refine pshY_u ?_))) (uo0_ok _)).h
    · ((repeat (first | with_reducible exact hU0 | refine popY_u ?_ | refine pshY_u ?_)); done)
    · exact .inr (.inl rfl)
    · exact z0
    · exact decide_eq_false hA1
    · exact decide_eq_false hA0
    · ((repeat (first | with_reducible exact hU0 | refine popY_u ?_ | refine pshY_u ?_)); done)
    · exact (popX_ok (by (repeat (first | with_reducible exact hU0 | refine popY_u ?_ | refine pshY_u ?_))) (popX_ok (by (repeat (first | with_reducible exact hU0 | refine popY_u ?_ | refine pshY_u ?_))) po0_ok)).l
    · exact (popX_ok (by (repeat (first | with_reducible exact hU0 | refine popY_u ?_ | refine pshY_u ?_))) (popX_ok (by (repeat (first | with_reducible exact hU0 | refine popY_u ?_ | refine pshY_u ?_))) po0_ok)).h
    · ((repeat (first | with_reducible exact hU0 | refine popY_u ?_ | refine pshY_u ?_)); done)
    · exact (popX_ok (by (repeat (first | with_reducible exact hU0 | refine popY_u ?_ | refine pshY_u ?_))) po0_ok).l
    · exact (popX_ok (by (repeat (first | with_reducible exact hU0 | refine popY_u ?_ | refine pshY_u ?_))) po0_ok).h
    · ((repeat (first | with_reducible exact hU0 | refine popY_u ?_ | refine pshY_u ?_)); done)
    · exact .inr (.inl rfl)
    · exact z0
    · ((repeat (first | with_reducible exact hU0 | refine popY_u ?_ | refine pshY_u ?_)); done)
    · exact (popX_ok (by (repeat (first | with_reducible exact hU0 | refine popY_u ?_ | refine pshY_u ?_))) (popX_ok (by (repeat (first | with_reducible exact hU0 | refine popY_u ?_ | refine pshY_u ?_))) po0_ok)).l
    · exact (popX_ok (by (repeat (first | with_reducible exact hU0 | refine popY_u ?_ | refine pshY_u ?_))) (popX_ok (by (repeat (first | with_reducible exact hU0 | refine popY_u ?_ | refine pshY_u ?_))) po0_ok)).h
    · ((repeat (first | with_reducible exact hU0 | refine popY_u ?_ | refine pshY_u ?_)); done)
    · exact (popX_ok (by (repeat (first | with_reducible exact hU0 | refine popY_u ?_ | refine pshY_u ?_))) po0_ok).l
    · exact (popX_ok (by (repeat (first | with_reducible exact hU0 | refine popY_u ?_ | refine pshY_u ?_))) po0_ok).h
    · ((repeat (first | with_reducible exact hU0 | refine popY_u ?_ | refine pshY_u ?_)); done)
    · exact .inr (.inl rfl)
    · exact z0
    · ((repeat (first | with_reducible exact hU0 | refine popY_u ?_ | refine pshY_u ?_)); done)
    · exact (popX_ok (by (repeat (first | with_reducible exact hU0 | refine popY_u ?_ | refine pshY_u ?_))) po0_ok).l
    · exact (popX_ok (by (repeat (first | with_reducible exact hU0 | refine popY_u ?_ | refine pshY_u ?_))) po0_ok).h
    · with_reducible assumption
    · exact .inr (.inl rfl)
    · exact z0
    · (simp; omega)
    · with_reducible assumption
    · with_reducible assumption
    · (simp; omega)
  · have hgot := fkD_got hsk (by omega) (by first | (simp; done) | (simp; omega))
    have hld := fkd_lp (ddN f m).length (ddN f m).length (LI (ddN f m)) (fm0 (ddN f m).length (LI (ddN f m))) (Nat.le_refl _) (by omega) hsk.u (fun i hi => by
      have := hgot i (by simpa using hi)
      have e := rev_get (L := ddN f m) (Nat.le_refl _) hi
      simp only [List.take_length] at e
      rw [e] at this; exact this)
    refine ⟨_, _, _, fh_1 m f, .inl rfl, (ob_cons (tabIs_self _) (ob_cons ?_ (ob_cons ?_ (ob_cons ?_ (ob_cons ?_ (ob_cons ?_ ob_nil))))))⟩
    · with_reducible assumption
    · (simp; omega)
    · with_reducible assumption
    · with_reducible assumption
    · (simp; omega)
theorem hown : ownKnob Tryd.prog.godebug = none := by kernel_rfl
theorem hlaidOut : laidOutB Tryd.prog = true := by kernel_rfl
theorem k5 : flatK Tryd.prog 4 5 = some [.int .u8] := by kernel_rfl
theorem freesStack_tabs : TabsOk Tryd.prog [("ragpicker/words.fields", Rows.laid_ragpicker_words_fields)] [(0, tab)] := tabsOkB_ok (by kernel_rfl)
set_option maxRecDepth 100000 in
theorem freesStack_runs : LawRunsT Tryd.prog 3 [22] [(0, tab)] := by
  intro H enc W base args ds p hval hA htab
  obtain ⟨v0, d0, hargs, rfl, h0⟩ := trodAll_one (args := args.toArray) hA
  obtain rfl : args = [v0] := by simpa using congrArg Array.toList hargs
  obtain ⟨fuel0, h0⟩ := h0
  obtain ⟨c0, l0, q0, rfl⟩ := okWide_slice Tryd.underlying22 (hval 0 22 v0 rfl rfl)
  obtain ⟨L0, len0, num0, bit0, hw0, hs0, hl0, hm0, hn0, hob0, hwf0⟩ := open_rows Tryd.underlying22 k5 (by kernel_rfl) (by decide) (okWide_spot Tryd.underlying22 (hval 0 22 _ rfl rfl)) (by simpa [Value.cells] using h0)
  have hs0 : L0.slice 1 0 len0 none = some (.slice c0 l0 q0) := hs0
  obtain ⟨h, x, ob, hr, hx, hob⟩ := fk_runs len0 (rowAV [.int .u8] num0 bit0) (fun i hi => u8_range (hwf0 i hi 0 .u8 rfl))
  have e0 : inpT [(1, L0)] [(0, tab)] 1 = some L0 := inpT_of rfl
  exact run_lawG (W := W) (ρ := inpT [(1, L0)] [(0, tab)]) EFl_ok hr hx hob (heapRepT (heap := [(1, .arr 1 [.int .u8] true len0 (rowAV [.int .u8] num0 bit0))]) (ls := [(1, L0)]) (tabs := [(0, tab)]) (nxt := 2) rfl (by decide) rfl htab (rep_cons rfl rfl hob0 rep_nil)) (xs := [.slice c0 l0 q0])
    (by simp [denL, den, e0, hs0]) (inpT_fresh (nxt := 2) rfl (Nat.le_refl _)) (inpT_glob (nxt := 2) rfl (by decide))

theorem freesStack_met (os : Os) (args : Array Value) : laidMetH Tryd.prog [("ragpicker/words.fields", Rows.laid_ragpicker_words_fields)] ((World.doorLaid Tryd.prog 400 os).forCall (fun _ _ => 0) ⟨#[], args, []⟩).memory :=
  laidMetH_of_parts3 (fuel := 8) (laidMet_of_run' 8 (by kernel_rfl) (by kernel_rfl)) (by kernel_rfl) (by kernel_rfl)
set_option maxRecDepth 100000 in
theorem freesStack_lifted (os : Os) (started : os.Started) (H : Type) (enc : TypeId × Value → H) :
    ReturnsInHanded {} Tryd.checked os 3 .any (fun w args => (Rows.freesStackSpec.pre enc Tryd.prog Tryd.f3 [] false w args ∧ laidMetH Tryd.prog [("ragpicker/words.fields", Rows.laid_ragpicker_words_fields)] w) ∧ sizedMet enc Tryd.prog Tryd.f3 (OpenSpec.ofChange Rows.freesStackSpec) false w args)
      (Rows.freesStackSpec.post enc Tryd.prog Tryd.f3 false true false false) := by
  refine returnsInHanded_of_change_and (C := Tryd.checked) (X := fun w _ => laidMetH Tryd.prog [("ragpicker/words.fields", Rows.laid_ragpicker_words_fields)] w) (fun _ _ _ hh h => h.of_heap hh) hown started (by kernel_rfl) Tryd.func3
    (ChangeSpec.witness_shaped (enc := enc) (C := Tryd.checked) (os := os) (X := fun w _ => laidMetH Tryd.prog [("ragpicker/words.fields", Rows.laid_ragpicker_words_fields)] w) false (World.doorLaid Tryd.prog 400 os) #[.slice none 0 0] 8 rfl (World.shaped_of_RefB (by kernel_rfl) (by kernel_rfl)) (by kernel_rfl) (by kernel_rfl) (by kernel_rfl) (freesStack_met os _)) ?_
  intro W base args ds gs before hval0 hW _ _ hL _
  exact law_contractT Tryd.params3 freesStack_runs hlaidOut (of_decide_eq_true (by kernel_rfl)) (by kernel_rfl) Tryd.underlying4 rfl
    (fun ds hl => by match ds, hl with | [d0], _ => exact ⟨rfl, rfl, rfl⟩) W base args ds gs before hval0 hW (tabs_laid (by kernel_rfl) freesStack_tabs hL)

theorem freesStack_row : Rows.FreesStackSaid :=
  OpenClaim.holds_of_wide 3 Tryd.f3 rfl rfl rfl rfl rfl rfl rfl ⟨rfl, rfl, rfl, rfl, rfl⟩ rfl rfl rfl rfl rfl (by kernel_rfl) Tryd.func3 (by kernel_rfl)
    (of_decide_eq_true (by kernel_rfl)) (by unfold Func.isWrapper; first | (rw [if_pos (by decide +kernel)]; kernel_rfl) | (rw [if_neg (by decide +kernel)]; exact ⟨rfl, rfl⟩))
    (fun os started H enc _ => freesStack_lifted os started H enc)

theorem freesStack_holds : Rows.FreesStackCardSaid :=
  Claim7.holds_tied_plain_at .later [] [.data] true (true, "9d093ca4ff3baad62d12e56c880e18e1afdaedaaab76b1b6bc1172113a6b8a5e") true freesStack_row (fun _ h => by cases h) (by kernel_rfl) (fun _ h => by cases h) freesStack_row_tie rfl ⟨rfl, rfl⟩ (by kernel_rfl) rfl
    (fun f fn hf hfn => by
      obtain rfl : f = 3 := Option.some.inj ((show Tryd.prog.funcNamed "ragpicker/ragpickerlaw07.FreesStack" = some 3 by kernel_rfl).symm.trans hf) |>.symm
      obtain rfl : fn = Tryd.f3 := (Option.some.inj (Tryd.func3.symm.trans hfn)).symm
      exact ⟨by kernel_rfl, fun j t ht => by
        rw [Tryd.params3] at ht
        have hm : t ∈ [22] := by simpa using Array.mem_of_getElem? ht
        have hall : ([22].all fun u => !Tryd.prog.wantsStandIn u) = true := by kernel_rfl
        exact (show Tryd.prog.wantsStandIn t = false by simpa using List.all_eq_true.1 hall t hm)⟩)
    (by kernel_rfl)

#print axioms freesStack_holds
end Go.Proofs.YtmndhjodbnojdaaDoor
