/-
  For all inputs, OrphansOrder returns true; its arguments read as before. No condition.
-/
import Derived.Test.YtmndhjodbnojdaaDoorEvDropK
import Derived.Test.YtmndhjodbnojdaaDoorTie
import Derived.Test.YtmndhjodbnojdaaDoorCards
import Derived.LaidMore
import Derived.ChangeMaps5
import Derived.OpenShut
import Derived.SevenTiedAt
set_option linter.unusedSimpArgs false
set_option linter.unusedVariables false
namespace Go.Proofs.YtmndhjodbnojdaaDoor
open Go.Ev Go.ChangeShapes Go.WideShapes Go.ChangeAt Go.RowKit
set_option maxRecDepth 100000
theorem oga_1 (m : Nat) (f : Nat → Nat → AV) (p : Int) : (callF EOz 6000 7 [AV.ss 1 1 0 m none, AV.sym IntKind.u8 p] ⟨(tabsH [(0, tab)] ++ [(1, AO.arr 1 [CK.int IntKind.u8] true m f)]), 2, gnm 0, [Hint.b true], [], [], false⟩).map (fun x => (x.1, x.2.ob, noneIn (tabsH [(0, tab)] ++ [(1, AO.arr 1 [CK.int IntKind.u8] true m f)]) x.2.wr)) =
 some (AV.bool true, [TabIs tab (tabF tab),
 decide (Int.ofNat m > 30) = true], true) := by kernel_rfl
theorem ogb_1 (m : Nat) (f : Nat → Nat → AV) (p : Int) : (callF EOz 6000 7 [AV.ss 1 1 0 m none, AV.sym IntKind.u8 p] ⟨(tabsH [(0, tab)] ++ [(1, AO.arr 1 [CK.int IntKind.u8] true m f)]), 2, gnm 0, [Hint.b false, Hint.lp [0, 1, 4, 5, 6, 7, 8] (Ex.exit 0) (oplX m f p m).tmps (oplX m f p m).hp.heap 6 [3, 2], Hint.b true], [], [], false⟩).map (fun x => (x.1, x.2.ob, noneIn (tabsH [(0, tab)] ++ [(1, AO.arr 1 [CK.int IntKind.u8] true m f)]) x.2.wr)) =
 some (AV.bool true, [TabIs tab (tabF tab),
 (Int.ofNat (owN p f m).nw == 0) = true,
 oplLP m f p,
 decide (Int.ofNat m > 30) = false], true) := by kernel_rfl
theorem ogc_1 (m : Nat) (f : Nat → Nat → AV) (p : Int) : (callF EOz 6000 7 [AV.ss 1 1 0 m none, AV.sym IntKind.u8 p] ⟨(tabsH [(0, tab)] ++ [(1, AO.arr 1 [CK.int IntKind.u8] true m f)]), 2, gnm 0, [Hint.b false, Hint.lp [0, 1, 4, 5, 6, 7, 8] (Ex.exit 0) (oplX m f p m).tmps (oplX m f p m).hp.heap 6 [3, 2], Hint.b false, Hint.n 0, Hint.n 1, Hint.b false, Hint.b false, Hint.b false, Hint.b false, Hint.n 0, Hint.b true, Hint.b true], [], [], false⟩).map (fun x => (x.1, x.2.ob, noneIn (tabsH [(0, tab)] ++ [(1, AO.arr 1 [CK.int IntKind.u8] true m f)]) x.2.wr)) =
 some (AV.bool true, [TabIs tab (tabF tab),
 sameB ((IntKind.i64.wrap (IntKind.i64.wrap (5 * Int.ofNat (owN p f m).nw) + 2) - 2) / 5).toNat (owN p f m).nw 0 0 (yF (tknE ((IntKind.i64.wrap (IntKind.i64.wrap (5 * Int.ofNat (owN p f m).nw) + 2) - 2) / 5).toNat (gvnY ((IntKind.i64.wrap (IntKind.i64.wrap (5 * Int.ofNat (owN p f m).nw) + 2) - 2) / 5).toNat (yK (yF (tknE ((IntKind.i64.wrap (IntKind.i64.wrap (5 * Int.ofNat (owN p f m).nw) + 2) - 2) / 5).toNat (owN p f m).S))) (MS.mk (mLoad (tknY ((IntKind.i64.wrap (IntKind.i64.wrap (5 * Int.ofNat (owN p f m).nw) + 2) - 2) / 5).toNat (owN p f m).S) 4 0 0).M (mLoad (tknY ((IntKind.i64.wrap (IntKind.i64.wrap (5 * Int.ofNat (owN p f m).nw) + 2) - 2) / 5).toNat (owN p f m).S) 4 0 0).st (LS.mk 1 4 0 0 (mLoad (tknY ((IntKind.i64.wrap (IntKind.i64.wrap (5 * Int.ofNat (owN p f m).nw) + 2) - 2) / 5).toNat (owN p f m).S) 4 0 0).L.w (mLoad (tknY ((IntKind.i64.wrap (IntKind.i64.wrap (5 * Int.ofNat (owN p f m).nw) + 2) - 2) / 5).toNat (owN p f m).S) 4 0 0).L.i (mLoad (tknY ((IntKind.i64.wrap (IntKind.i64.wrap (5 * Int.ofNat (owN p f m).nw) + 2) - 2) / 5).toNat (owN p f m).S) 4 0 0).L.d))))) (yF (owN p f m).Ew) = true,
 0 + ((IntKind.i64.wrap (IntKind.i64.wrap (5 * Int.ofNat (owN p f m).nw) + 2) - 2) / 5).toNat ≤ ((IntKind.i64.wrap (IntKind.i64.wrap (5 * Int.ofNat (owN p f m).nw) + 2) - 2) / 5).toNat,
 0 + (owN p f m).nw ≤ (owN p f m).nw,
 ((IntKind.i64.wrap (IntKind.i64.wrap (5 * Int.ofNat (owN p f m).nw) + 2) - 2) / 5).toNat ≤ 1000000,
 true = true,
 tabF tab = tabF tab,
 TkAll ((IntKind.i64.wrap (IntKind.i64.wrap (5 * Int.ofNat (owN p f m).nw) + 2) - 2) / 5).toNat (gvnY ((IntKind.i64.wrap (IntKind.i64.wrap (5 * Int.ofNat (owN p f m).nw) + 2) - 2) / 5).toNat (yK (yF (tknE ((IntKind.i64.wrap (IntKind.i64.wrap (5 * Int.ofNat (owN p f m).nw) + 2) - 2) / 5).toNat (owN p f m).S))) (MS.mk (mLoad (tknY ((IntKind.i64.wrap (IntKind.i64.wrap (5 * Int.ofNat (owN p f m).nw) + 2) - 2) / 5).toNat (owN p f m).S) 4 0 0).M (mLoad (tknY ((IntKind.i64.wrap (IntKind.i64.wrap (5 * Int.ofNat (owN p f m).nw) + 2) - 2) / 5).toNat (owN p f m).S) 4 0 0).st (LS.mk 1 4 0 0 (mLoad (tknY ((IntKind.i64.wrap (IntKind.i64.wrap (5 * Int.ofNat (owN p f m).nw) + 2) - 2) / 5).toNat (owN p f m).S) 4 0 0).L.w (mLoad (tknY ((IntKind.i64.wrap (IntKind.i64.wrap (5 * Int.ofNat (owN p f m).nw) + 2) - 2) / 5).toNat (owN p f m).S) 4 0 0).L.i (mLoad (tknY ((IntKind.i64.wrap (IntKind.i64.wrap (5 * Int.ofNat (owN p f m).nw) + 2) - 2) / 5).toNat (owN p f m).S) 4 0 0).L.d))),
 IntKind.i64.wrap (IntKind.i64.wrap (5 * Int.ofNat (owN p f m).nw) + 2) = Int.ofNat (5 * ((IntKind.i64.wrap (IntKind.i64.wrap (5 * Int.ofNat (owN p f m).nw) + 2) - 2) / 5).toNat) + 2,
 (!gvnB ((IntKind.i64.wrap (IntKind.i64.wrap (5 * Int.ofNat (owN p f m).nw) + 2) - 2) / 5).toNat (yK (yF (tknE ((IntKind.i64.wrap (IntKind.i64.wrap (5 * Int.ofNat (owN p f m).nw) + 2) - 2) / 5).toNat (owN p f m).S))) (MS.mk (mLoad (tknY ((IntKind.i64.wrap (IntKind.i64.wrap (5 * Int.ofNat (owN p f m).nw) + 2) - 2) / 5).toNat (owN p f m).S) 4 0 0).M (mLoad (tknY ((IntKind.i64.wrap (IntKind.i64.wrap (5 * Int.ofNat (owN p f m).nw) + 2) - 2) / 5).toNat (owN p f m).S) 4 0 0).st (LS.mk 1 4 0 0 (mLoad (tknY ((IntKind.i64.wrap (IntKind.i64.wrap (5 * Int.ofNat (owN p f m).nw) + 2) - 2) / 5).toNat (owN p f m).S) 4 0 0).L.w (mLoad (tknY ((IntKind.i64.wrap (IntKind.i64.wrap (5 * Int.ofNat (owN p f m).nw) + 2) - 2) / 5).toNat (owN p f m).S) 4 0 0).L.i (mLoad (tknY ((IntKind.i64.wrap (IntKind.i64.wrap (5 * Int.ofNat (owN p f m).nw) + 2) - 2) / 5).toNat (owN p f m).S) 4 0 0).L.d))) = false,
 tabF tab = tabF tab,
 ((IntKind.i64.wrap (IntKind.i64.wrap (5 * Int.ofNat (owN p f m).nw) + 2) - 2) / 5).toNat ≤ ((IntKind.i64.wrap (IntKind.i64.wrap (5 * Int.ofNat (owN p f m).nw) + 2) - 2) / 5).toNat,
 U64 (MS.mk (mLoad (tknY ((IntKind.i64.wrap (IntKind.i64.wrap (5 * Int.ofNat (owN p f m).nw) + 2) - 2) / 5).toNat (owN p f m).S) 4 0 0).M (mLoad (tknY ((IntKind.i64.wrap (IntKind.i64.wrap (5 * Int.ofNat (owN p f m).nw) + 2) - 2) / 5).toNat (owN p f m).S) 4 0 0).st (LS.mk 1 4 0 0 (mLoad (tknY ((IntKind.i64.wrap (IntKind.i64.wrap (5 * Int.ofNat (owN p f m).nw) + 2) - 2) / 5).toNat (owN p f m).S) 4 0 0).L.w (mLoad (tknY ((IntKind.i64.wrap (IntKind.i64.wrap (5 * Int.ofNat (owN p f m).nw) + 2) - 2) / 5).toNat (owN p f m).S) 4 0 0).L.i (mLoad (tknY ((IntKind.i64.wrap (IntKind.i64.wrap (5 * Int.ofNat (owN p f m).nw) + 2) - 2) / 5).toNat (owN p f m).S) 4 0 0).L.d)),
 GvMay ((IntKind.i64.wrap (IntKind.i64.wrap (5 * Int.ofNat (owN p f m).nw) + 2) - 2) / 5).toNat (yF (tknE ((IntKind.i64.wrap (IntKind.i64.wrap (5 * Int.ofNat (owN p f m).nw) + 2) - 2) / 5).toNat (owN p f m).S)),
 IntKind.i64.wrap (Int.ofNat ((IntKind.i64.wrap (IntKind.i64.wrap (5 * Int.ofNat (owN p f m).nw) + 2) - 2) / 5).toNat + 2) = Int.ofNat ((IntKind.i64.wrap (IntKind.i64.wrap (5 * Int.ofNat (owN p f m).nw) + 2) - 2) / 5).toNat + 2,
 GvNo ((IntKind.i64.wrap (IntKind.i64.wrap (5 * Int.ofNat (owN p f m).nw) + 2) - 2) / 5).toNat (yK (yF (tknE ((IntKind.i64.wrap (IntKind.i64.wrap (5 * Int.ofNat (owN p f m).nw) + 2) - 2) / 5).toNat (owN p f m).S))) (MS.mk (mLoad (tknY ((IntKind.i64.wrap (IntKind.i64.wrap (5 * Int.ofNat (owN p f m).nw) + 2) - 2) / 5).toNat (owN p f m).S) 4 0 0).M (mLoad (tknY ((IntKind.i64.wrap (IntKind.i64.wrap (5 * Int.ofNat (owN p f m).nw) + 2) - 2) / 5).toNat (owN p f m).S) 4 0 0).st (LS.mk 1 4 0 0 (mLoad (tknY ((IntKind.i64.wrap (IntKind.i64.wrap (5 * Int.ofNat (owN p f m).nw) + 2) - 2) / 5).toNat (owN p f m).S) 4 0 0).L.w (mLoad (tknY ((IntKind.i64.wrap (IntKind.i64.wrap (5 * Int.ofNat (owN p f m).nw) + 2) - 2) / 5).toNat (owN p f m).S) 4 0 0).L.i (mLoad (tknY ((IntKind.i64.wrap (IntKind.i64.wrap (5 * Int.ofNat (owN p f m).nw) + 2) - 2) / 5).toNat (owN p f m).S) 4 0 0).L.d)),
 (!true) = false,
 (!sameB ((IntKind.i64.wrap (IntKind.i64.wrap (5 * Int.ofNat (owN p f m).nw) + 2) - 2) / 5).toNat (owN p f m).nw 0 0 (yF (tknE ((IntKind.i64.wrap (IntKind.i64.wrap (5 * Int.ofNat (owN p f m).nw) + 2) - 2) / 5).toNat (owN p f m).S)) (yF (owN p f m).Ew)) = false,
 0 + ((IntKind.i64.wrap (IntKind.i64.wrap (5 * Int.ofNat (owN p f m).nw) + 2) - 2) / 5).toNat ≤ ((IntKind.i64.wrap (IntKind.i64.wrap (5 * Int.ofNat (owN p f m).nw) + 2) - 2) / 5).toNat,
 0 + (owN p f m).nw ≤ (owN p f m).nw,
 ((IntKind.i64.wrap (IntKind.i64.wrap (5 * Int.ofNat (owN p f m).nw) + 2) - 2) / 5).toNat ≤ 1000000,
 (!true) = false,
 tabF tab = tabF tab,
 TkNone (tknY ((IntKind.i64.wrap (IntKind.i64.wrap (5 * Int.ofNat (owN p f m).nw) + 2) - 2) / 5).toNat (owN p f m).S),
 (1 : Int) = 1,
 tabF tab = tabF tab,
 TkAll ((IntKind.i64.wrap (IntKind.i64.wrap (5 * Int.ofNat (owN p f m).nw) + 2) - 2) / 5).toNat (owN p f m).S,
 IntKind.i64.wrap (IntKind.i64.wrap (5 * Int.ofNat (owN p f m).nw) + 2) = Int.ofNat (5 * ((IntKind.i64.wrap (IntKind.i64.wrap (5 * Int.ofNat (owN p f m).nw) + 2) - 2) / 5).toNat) + 2,
 (Int.ofNat (owN p f m).nw == 0) = false,
 oplLP m f p,
 decide (Int.ofNat m > 30) = false], true) := by kernel_rfl
def opK (w : Nat) : Nat := ((IntKind.i64.wrap (IntKind.i64.wrap (5 * Int.ofNat w) + 2) - 2) / 5).toNat
theorem opK_eq {w : Nat} (h : w ≤ 1000) : opK w = w ∧ IntKind.i64.wrap (IntKind.i64.wrap (5 * Int.ofNat w) + 2) = Int.ofNat (5 * w) + 2 := by
  have e1 : IntKind.i64.wrap (5 * Int.ofNat w) = 5 * (w : Int) := i64w (x := 5 * Int.ofNat w) (by simp; omega) (by simp; omega)
  have e2 : IntKind.i64.wrap (5 * (w : Int) + 2) = 5 * (w : Int) + 2 := i64w (by omega) (by omega)
  constructor
  · unfold opK; rw [e1, e2]; omega
  · rw [e1, e2]; show 5 * (w : Int) + 2 = ((5 * w : Nat) : Int) + 2; omega
theorem same_y {n : Nat} {E F : Nat → Enty} (h : ∀ i, i < n → E i = F i) : sameB n n 0 0 (yF E) (yF F) = true := by
  have hb : allB (fun i => entB (yF E (0 + i)) (yF F (0 + i))) n = true := (allB_iff _ n).2 fun i hi => by
    simp only [Nat.zero_add]
    have e : yF E i = yF F i := by unfold yF; rw [h i hi]
    rw [e]; unfold entB; simp [and2]
  unfold sameB; rw [hb]; simp
theorem TkIs.at_ {S : MS} {l : List Int} {t : Int} {n : Nat} (h : TkIs S l t) (e : l.length = n) : TkAll n S ∧ SO (tknY n S) [] (t + 1) ∧ (∀ j (hj : j < l.length), tknE n S j = eAt S.M l[j]) ∧ (∀ k a f, ¬ k = 4 → mget (tknY n S).M (key k a f) = mget S.M (key k a f)) := by
  subst e; exact ⟨h.all, h.so, h.e, h.fr⟩
theorem oo_runs (m : Nat) (f : Nat → Nat → AV) (p : Int) (hr : ∀ i, i < m → 0 ≤ avInt (f i 0) ∧ avInt (f i 0) < 256) : Runs (ooRun m f p) := by
  by_cases hm : m > 30
  ·
    refine ⟨_, _, _, oga_1 m f p, .inl rfl, (ob_cons (tabIs_self _) (ob_cons ?_ ob_nil))⟩
    ·
      first | with_reducible assumption | exact rfl | exact tabIs_self _ | exact hlp | exact eqT hz | exact eqF hz | exact hsame1 | exact hsame2 | exact hsame3 | exact ht1 | exact htk1 | exact htn | exact hmay | exact hno | exact hgb | exact hu2 | exact htk2 | exact hgt | exact hk0 | exact hk1 | (simp; done) | (simp; omega) | omega | (apply Nat.ble_eq_true_of_le; omega) | (simp [Nat.blt_eq]; omega)
  have hlp : oplLP m f p := opl_lp m f p (by omega) hr
  by_cases hz : Int.ofNat (owN p f m).nw = 0
  ·
    refine ⟨_, _, _, ogb_1 m f p, .inl rfl, (ob_cons (tabIs_self _) (ob_cons ?_ (ob_cons ?_ (ob_cons ?_ ob_nil))))⟩
    ·
      first | with_reducible assumption | exact rfl | exact tabIs_self _ | exact hlp | exact eqT hz | exact eqF hz | exact hsame1 | exact hsame2 | exact hsame3 | exact ht1 | exact htk1 | exact htn | exact hmay | exact hno | exact hgb | exact hu2 | exact htk2 | exact hgt | exact hk0 | exact hk1 | (simp; done) | (simp; omega) | omega | (apply Nat.ble_eq_true_of_le; omega) | (simp [Nat.blt_eq]; omega)
    ·
      first | with_reducible assumption | exact rfl | exact tabIs_self _ | exact hlp | exact eqT hz | exact eqF hz | exact hsame1 | exact hsame2 | exact hsame3 | exact ht1 | exact htk1 | exact htn | exact hmay | exact hno | exact hgb | exact hu2 | exact htk2 | exact hgt | exact hk0 | exact hk1 | (simp; done) | (simp; omega) | omega | trivial
    ·
      first | with_reducible assumption | exact rfl | exact tabIs_self _ | exact hlp | exact eqT hz | exact eqF hz | exact hsame1 | exact hsame2 | exact hsame3 | exact ht1 | exact htk1 | exact htn | exact hmay | exact hno | exact hgb | exact hu2 | exact htk2 | exact hgt | exact hk0 | exact hk1 | (simp; done) | (simp; omega) | omega | (apply Nat.ble_eq_true_of_le; omega) | (simp [Nat.blt_eq]; omega)
  obtain ⟨nl, wl, t, h⟩ := oi_all (p := p) (by omega) hr m (Nat.le_refl _)
  have hlen := h.len
  have hnw := h.nw
  have ht1' := h.t1
  have ht0 := h.t0
  have hz' : 0 < (owN p f m).nw := by
    have : ¬ ((owN p f m).nw : Int) = 0 := hz
    omega
  obtain ⟨hq, hqt⟩ := opK_eq (w := (owN p f m).nw) (by omega)
  obtain ⟨T1all, T1so, T1e, T1fr⟩ := (tk_is h.so (by omega) (by omega) ht0 (by omega)).at_ hnw
  have hev : ∀ j, j < (owN p f m).nw → tknE (owN p f m).nw (owN p f m).S j = (owN p f m).Ew j := fun j hj => by
    have hj' : j < wl.length := by omega
    rw [T1e j hj', h.ew j hj', h.at_ _ (by simp)]
  have hKj : ∀ j (hj : j < wl.length), yK (yF (tknE (owN p f m).nw (owN p f m).S)) j = wl[j] := fun j hj => by
    show (tknE _ _ (0 + j)).slot = _
    rw [Nat.zero_add, hev j (by omega), h.ew j hj]; rfl
  have hnd : (wl ++ []).Nodup := by rw [List.append_nil]; exact (List.nodup_append.1 h.nd).2.1
  have hrw : ∀ s ∈ wl, 0 ≤ s ∧ s < 256 := fun s hs => ⟨(h.r s (by simp [hs])).1, (h.r s (by simp [hs])).2.1⟩
  have so2 : SO (mLoad (tknY (owN p f m).nw (owN p f m).S) 4 0 0) [] (t + 1) := T1so.load _ _ _
  have G := gv_is so2 hnw hKj hz' (by omega) hnd hrw (by omega) (by omega)
  have so3 := G.so
  rw [List.append_nil] at so3
  obtain ⟨T2all, T2so, T2e, T2fr⟩ := (tk_is so3 (by omega) (by omega) (by omega) (by omega)).at_ hnw
  have hev2 : ∀ j, j < (owN p f m).nw → tknE (owN p f m).nw (gvnY (owN p f m).nw (yK (yF (tknE (owN p f m).nw (owN p f m).S))) (mLoad (tknY (owN p f m).nw (owN p f m).S) 4 0 0)) j = (owN p f m).Ew j := fun j hj => by
    have hj' : j < wl.length := by omega
    have e : ∀ ff, ¬ ff = 2 → mget (gvnY (owN p f m).nw (yK (yF (tknE (owN p f m).nw (owN p f m).S))) (mLoad (tknY (owN p f m).nw (owN p f m).S) 4 0 0)).M (key 9 wl[j] ff) = mget (owN p f m).S.M (key 9 wl[j] ff) := fun ff hf => by
      rw [G.fr 9 _ ff (by decide) (fun e => hf e.2)]
      exact T1fr 9 _ ff (by decide)
    rw [T2e j hj', h.ew j hj']
    unfold eAt
    rw [e 0 (by decide), e 1 (by decide), e 3 (by decide), e 4 (by decide)]
    exact h.at_ wl[j] (by simp)
  have hsame1 : (!sameB (opK (owN p f m).nw) (owN p f m).nw 0 0 (yF (tknE (opK (owN p f m).nw) (owN p f m).S)) (yF (owN p f m).Ew)) = false := by
    rw [hq]; exact notF (same_y hev)
  have hsame2 : sameB (opK (owN p f m).nw) (owN p f m).nw 0 0 (yF (tknE (opK (owN p f m).nw) (gvnY (opK (owN p f m).nw) (yK (yF (tknE (opK (owN p f m).nw) (owN p f m).S))) (mLoad (tknY (opK (owN p f m).nw) (owN p f m).S) 4 0 0)))) (yF (owN p f m).Ew) = true := by
    rw [hq]; exact same_y hev2
  have hsame3 : 0 + opK (owN p f m).nw ≤ opK (owN p f m).nw := by omega
  have hk0 : opK (owN p f m).nw ≤ 1000000 := by omega
  have hk1 : 0 + (owN p f m).nw ≤ (owN p f m).nw := by omega
  have ht1 : IntKind.i64.wrap (IntKind.i64.wrap (5 * Int.ofNat (owN p f m).nw) + 2) = Int.ofNat (5 * opK (owN p f m).nw) + 2 := by rw [hq]; exact hqt
  have htk1 : TkAll (opK (owN p f m).nw) (owN p f m).S := by rw [hq]; exact T1all
  have htn : TkNone (tknY (opK (owN p f m).nw) (owN p f m).S) := by rw [hq]; exact tk_none T1so
  have hmay : GvMay (opK (owN p f m).nw) (yF (tknE (opK (owN p f m).nw) (owN p f m).S)) := by
    rw [hq]
    refine ⟨fun j hj => ?_, fun j hj k hk => ?_, hz', by omega⟩
    · have hj' : j < wl.length := by omega
      have r := hrw _ (List.getElem_mem hj')
      rw [hKj j hj']
      refine ⟨r.1, r.2, ?_⟩
      show (tknE _ _ (0 + j)).mark = false
      rw [Nat.zero_add, hev j hj, h.ew j hj']; rfl
    · rw [hKj j (by omega), hKj k (by omega)]
      exact fun e => by have := (List.getElem_inj (List.nodup_append.1 h.nd).2.1).1 e; omega
  have hno : GvNo (opK (owN p f m).nw) (yK (yF (tknE (opK (owN p f m).nw) (owN p f m).S))) (mLoad (tknY (opK (owN p f m).nw) (owN p f m).S) 4 0 0) := by rw [hq]; exact G.no
  have hgb : (!gvnB (opK (owN p f m).nw) (yK (yF (tknE (opK (owN p f m).nw) (owN p f m).S))) (mLoad (tknY (opK (owN p f m).nw) (owN p f m).S) 4 0 0)) = false := by rw [hq]; exact notF G.b
  have hu2 : U64 (mLoad (tknY (opK (owN p f m).nw) (owN p f m).S) 4 0 0) := by rw [hq]; exact so2.u
  have htk2 : TkAll (opK (owN p f m).nw) (gvnY (opK (owN p f m).nw) (yK (yF (tknE (opK (owN p f m).nw) (owN p f m).S))) (mLoad (tknY (opK (owN p f m).nw) (owN p f m).S) 4 0 0)) := by rw [hq]; exact T2all
  have hgt : IntKind.i64.wrap (Int.ofNat (opK (owN p f m).nw) + 2) = Int.ofNat (opK (owN p f m).nw) + 2 := i64w (by simp; omega) (by simp; omega)
  refine ⟨_, _, _, ogc_1 m f p, .inl rfl, (ob_cons (tabIs_self _) (ob_cons ?_ (ob_cons ?_ (ob_cons ?_ (ob_cons ?_ (ob_cons rfl (ob_cons rfl (ob_cons ?_ (ob_cons ?_ (ob_cons ?_ (ob_cons rfl (ob_cons (Nat.le_refl _) (ob_cons ?_ (ob_cons ?_ (ob_cons ?_ (ob_cons ?_ (ob_cons ?_ (ob_cons ?_ (ob_cons ?_ (ob_cons ?_ (ob_cons ?_ (ob_cons ?_ (ob_cons rfl (ob_cons ?_ (ob_cons rfl (ob_cons rfl (ob_cons ?_ (ob_cons ?_ (ob_cons ?_ (ob_cons ?_ (ob_cons ?_ ob_nil)))))))))))))))))))))))))))))))⟩
  ·
    first | with_reducible assumption | exact rfl | exact tabIs_self _ | exact hlp | exact eqT hz | exact eqF hz | exact hsame1 | exact hsame2 | exact hsame3 | exact ht1 | exact htk1 | exact htn | exact hmay | exact hno | exact hgb | exact hu2 | exact htk2 | exact hgt | exact hk0 | exact hk1 | (simp; done) | (simp; omega) | omega | (apply Nat.ble_eq_true_of_le; omega) | (simp [Nat.blt_eq]; omega)
  ·
    first | with_reducible assumption | exact rfl | exact tabIs_self _ | exact hlp | exact eqT hz | exact eqF hz | exact hsame1 | exact hsame2 | exact hsame3 | exact ht1 | exact htk1 | exact htn | exact hmay | exact hno | exact hgb | exact hu2 | exact htk2 | exact hgt | exact hk0 | exact hk1 | (simp; done) | (simp; omega) | omega | exact Nat.le_refl _ | omega
  ·
    first | with_reducible assumption | exact rfl | exact tabIs_self _ | exact hlp | exact eqT hz | exact eqF hz | exact hsame1 | exact hsame2 | exact hsame3 | exact ht1 | exact htk1 | exact htn | exact hmay | exact hno | exact hgb | exact hu2 | exact htk2 | exact hgt | exact hk0 | exact hk1 | (simp; done) | (simp; omega) | omega | exact Nat.le_refl _ | omega
  ·
    first | with_reducible assumption | exact rfl | exact tabIs_self _ | exact hlp | exact eqT hz | exact eqF hz | exact hsame1 | exact hsame2 | exact hsame3 | exact ht1 | exact htk1 | exact htn | exact hmay | exact hno | exact hgb | exact hu2 | exact htk2 | exact hgt | exact hk0 | exact hk1 | (simp; done) | (simp; omega) | omega | exact Nat.le_refl _ | omega
  ·
    first | with_reducible assumption | exact rfl | exact tabIs_self _ | exact hlp | exact eqT hz | exact eqF hz | exact hsame1 | exact hsame2 | exact hsame3 | exact ht1 | exact htk1 | exact htn | exact hmay | exact hno | exact hgb | exact hu2 | exact htk2 | exact hgt | exact hk0 | exact hk1 | (simp; done) | (simp; omega) | omega | trivial
  ·
    first | with_reducible assumption | exact rfl | exact tabIs_self _ | exact hlp | exact eqT hz | exact eqF hz | exact hsame1 | exact hsame2 | exact hsame3 | exact ht1 | exact htk1 | exact htn | exact hmay | exact hno | exact hgb | exact hu2 | exact htk2 | exact hgt | exact hk0 | exact hk1 | (simp; done) | (simp; omega) | omega | exact wrap_nat64 _ (by simp; omega) (by simp; omega)
  ·
    first | with_reducible assumption | exact rfl | exact tabIs_self _ | exact hlp | exact eqT hz | exact eqF hz | exact hsame1 | exact hsame2 | exact hsame3 | exact ht1 | exact htk1 | exact htn | exact hmay | exact hno | exact hgb | exact hu2 | exact htk2 | exact hgt | exact hk0 | exact hk1 | (simp; done) | (simp; omega) | omega | (apply Nat.ble_eq_true_of_le; omega) | (simp [Nat.blt_eq]; omega)
  ·
    first | with_reducible assumption | exact rfl | exact tabIs_self _ | exact hlp | exact eqT hz | exact eqF hz | exact hsame1 | exact hsame2 | exact hsame3 | exact ht1 | exact htk1 | exact htn | exact hmay | exact hno | exact hgb | exact hu2 | exact htk2 | exact hgt | exact hk0 | exact hk1 | (simp; done) | (simp; omega) | omega | trivial
  ·
    first | with_reducible assumption | exact rfl | exact tabIs_self _ | exact hlp | exact eqT hz | exact eqF hz | exact hsame1 | exact hsame2 | exact hsame3 | exact ht1 | exact htk1 | exact htn | exact hmay | exact hno | exact hgb | exact hu2 | exact htk2 | exact hgt | exact hk0 | exact hk1 | (simp; done) | (simp; omega) | omega | trivial
  ·
    first | with_reducible assumption | exact rfl | exact tabIs_self _ | exact hlp | exact eqT hz | exact eqF hz | exact hsame1 | exact hsame2 | exact hsame3 | exact ht1 | exact htk1 | exact htn | exact hmay | exact hno | exact hgb | exact hu2 | exact htk2 | exact hgt | exact hk0 | exact hk1 | (simp; done) | (simp; omega) | omega | exact wrap_nat64 _ (by simp; omega) (by simp; omega)
  ·
    first | with_reducible assumption | exact rfl | exact tabIs_self _ | exact hlp | exact eqT hz | exact eqF hz | exact hsame1 | exact hsame2 | exact hsame3 | exact ht1 | exact htk1 | exact htn | exact hmay | exact hno | exact hgb | exact hu2 | exact htk2 | exact hgt | exact hk0 | exact hk1 | (simp; done) | (simp; omega) | omega | trivial
  ·
    first | with_reducible assumption | exact rfl | exact tabIs_self _ | exact hlp | exact eqT hz | exact eqF hz | exact hsame1 | exact hsame2 | exact hsame3 | exact ht1 | exact htk1 | exact htn | exact hmay | exact hno | exact hgb | exact hu2 | exact htk2 | exact hgt | exact hk0 | exact hk1 | (simp; done) | (simp; omega) | omega | (apply Nat.ble_eq_true_of_le; omega) | (simp [Nat.blt_eq]; omega)
  ·
    first | with_reducible assumption | exact rfl | exact tabIs_self _ | exact hlp | exact eqT hz | exact eqF hz | exact hsame1 | exact hsame2 | exact hsame3 | exact ht1 | exact htk1 | exact htn | exact hmay | exact hno | exact hgb | exact hu2 | exact htk2 | exact hgt | exact hk0 | exact hk1 | (simp; done) | (simp; omega) | omega | (apply Nat.ble_eq_true_of_le; omega) | (simp [Nat.blt_eq]; omega)
  ·
    first | with_reducible assumption | exact rfl | exact tabIs_self _ | exact hlp | exact eqT hz | exact eqF hz | exact hsame1 | exact hsame2 | exact hsame3 | exact ht1 | exact htk1 | exact htn | exact hmay | exact hno | exact hgb | exact hu2 | exact htk2 | exact hgt | exact hk0 | exact hk1 | (simp; done) | (simp; omega) | omega | exact Nat.le_refl _ | omega
  ·
    first | with_reducible assumption | exact rfl | exact tabIs_self _ | exact hlp | exact eqT hz | exact eqF hz | exact hsame1 | exact hsame2 | exact hsame3 | exact ht1 | exact htk1 | exact htn | exact hmay | exact hno | exact hgb | exact hu2 | exact htk2 | exact hgt | exact hk0 | exact hk1 | (simp; done) | (simp; omega) | omega | exact Nat.le_refl _ | omega
  ·
    first | with_reducible assumption | exact rfl | exact tabIs_self _ | exact hlp | exact eqT hz | exact eqF hz | exact hsame1 | exact hsame2 | exact hsame3 | exact ht1 | exact htk1 | exact htn | exact hmay | exact hno | exact hgb | exact hu2 | exact htk2 | exact hgt | exact hk0 | exact hk1 | (simp; done) | (simp; omega) | omega | exact Nat.le_refl _ | omega
  ·
    first | with_reducible assumption | exact rfl | exact tabIs_self _ | exact hlp | exact eqT hz | exact eqF hz | exact hsame1 | exact hsame2 | exact hsame3 | exact ht1 | exact htk1 | exact htn | exact hmay | exact hno | exact hgb | exact hu2 | exact htk2 | exact hgt | exact hk0 | exact hk1 | (simp; done) | (simp; omega) | omega | (apply Nat.ble_eq_true_of_le; omega) | (simp [Nat.blt_eq]; omega)
  ·
    first | with_reducible assumption | exact rfl | exact tabIs_self _ | exact hlp | exact eqT hz | exact eqF hz | exact hsame1 | exact hsame2 | exact hsame3 | exact ht1 | exact htk1 | exact htn | exact hmay | exact hno | exact hgb | exact hu2 | exact htk2 | exact hgt | exact hk0 | exact hk1 | (simp; done) | (simp; omega) | omega | trivial
  ·
    first | with_reducible assumption | exact rfl | exact tabIs_self _ | exact hlp | exact eqT hz | exact eqF hz | exact hsame1 | exact hsame2 | exact hsame3 | exact ht1 | exact htk1 | exact htn | exact hmay | exact hno | exact hgb | exact hu2 | exact htk2 | exact hgt | exact hk0 | exact hk1 | (simp; done) | (simp; omega) | omega | trivial
  ·
    first | with_reducible assumption | exact rfl | exact tabIs_self _ | exact hlp | exact eqT hz | exact eqF hz | exact hsame1 | exact hsame2 | exact hsame3 | exact ht1 | exact htk1 | exact htn | exact hmay | exact hno | exact hgb | exact hu2 | exact htk2 | exact hgt | exact hk0 | exact hk1 | (simp; done) | (simp; omega) | omega | exact wrap_nat64 _ (by simp; omega) (by simp; omega)
  ·
    first | with_reducible assumption | exact rfl | exact tabIs_self _ | exact hlp | exact eqT hz | exact eqF hz | exact hsame1 | exact hsame2 | exact hsame3 | exact ht1 | exact htk1 | exact htn | exact hmay | exact hno | exact hgb | exact hu2 | exact htk2 | exact hgt | exact hk0 | exact hk1 | (simp; done) | (simp; omega) | omega | (apply Nat.ble_eq_true_of_le; omega) | (simp [Nat.blt_eq]; omega)
  ·
    first | with_reducible assumption | exact rfl | exact tabIs_self _ | exact hlp | exact eqT hz | exact eqF hz | exact hsame1 | exact hsame2 | exact hsame3 | exact ht1 | exact htk1 | exact htn | exact hmay | exact hno | exact hgb | exact hu2 | exact htk2 | exact hgt | exact hk0 | exact hk1 | (simp; done) | (simp; omega) | omega | trivial
  ·
    first | with_reducible assumption | exact rfl | exact tabIs_self _ | exact hlp | exact eqT hz | exact eqF hz | exact hsame1 | exact hsame2 | exact hsame3 | exact ht1 | exact htk1 | exact htn | exact hmay | exact hno | exact hgb | exact hu2 | exact htk2 | exact hgt | exact hk0 | exact hk1 | (simp; done) | (simp; omega) | omega | (apply Nat.ble_eq_true_of_le; omega) | (simp [Nat.blt_eq]; omega)
theorem hown : ownKnob Tryd.prog.godebug = none := by kernel_rfl
theorem hlaidOut : laidOutB Tryd.prog = true := by kernel_rfl
theorem k5 : flatK Tryd.prog 4 5 = some [.int .u8] := by kernel_rfl
theorem orphansOrder_tabs : TabsOk Tryd.prog [("ragpicker/words.fields", Rows.laid_ragpicker_words_fields)] [(0, tab)] := tabsOkB_ok (by kernel_rfl)
set_option maxRecDepth 100000 in
theorem orphansOrder_runs : LawRunsT Tryd.prog 7 [22, 5] [(0, tab)] := by
  intro H enc W base args ds p hval hA htab
  obtain ⟨v0, v1, d0, d1, p0, p1, hargs, rfl, rfl, h0, h1⟩ := trodAll_two (args := args.toArray) hA
  obtain rfl : args = [v0, v1] := by simpa using congrArg Array.toList hargs
  obtain ⟨fuel0, h0⟩ := h0
  obtain ⟨c0, l0, q0, rfl⟩ := okWide_slice Tryd.underlying22 (hval 0 22 v0 rfl rfl)
  obtain ⟨L0, len0, num0, bit0, hw0, hs0, hl0, hm0, hn0, hob0, hwf0⟩ := open_rows Tryd.underlying22 k5 (by kernel_rfl) (by decide) (okWide_spot Tryd.underlying22 (hval 0 22 _ rfl rfl)) (by simpa [Value.cells] using h0)
  have hs0 : L0.slice 1 0 len0 none = some (.slice c0 l0 q0) := hs0
  obtain ⟨p, rfl, rp⟩ := okWide_num Tryd.underlying5 (hval 1 5 v1 rfl rfl)
  obtain ⟨h, x, ob, hr, hx, hob⟩ := oo_runs len0 (rowAV [.int .u8] num0 bit0) p (fun i hi => u8_range (hwf0 i hi 0 .u8 rfl))
  have e0 : inpT [(1, L0)] [(0, tab)] 1 = some L0 := inpT_of rfl
  exact run_lawG (W := W) (ρ := inpT [(1, L0)] [(0, tab)]) EOz_ok hr hx hob (heapRepT (heap := [(1, .arr 1 [.int .u8] true len0 (rowAV [.int .u8] num0 bit0))]) (ls := [(1, L0)]) (tabs := [(0, tab)]) (nxt := 2) rfl (by decide) rfl htab (rep_cons rfl rfl hob0 rep_nil)) (xs := [.slice c0 l0 q0, .int .u8 p])
    (by simp [denL, den, e0, hs0]) (inpT_fresh (nxt := 2) rfl (Nat.le_refl _)) (inpT_glob (nxt := 2) rfl (by decide))

theorem orphansOrder_met (os : Os) (args : Array Value) : laidMetH Tryd.prog [("ragpicker/words.fields", Rows.laid_ragpicker_words_fields)] ((World.doorLaid Tryd.prog 400 os).forCall (fun _ _ => 0) ⟨#[], args, []⟩).memory :=
  laidMetH_of_parts3 (fuel := 8) (laidMet_of_run' 8 (by kernel_rfl) (by kernel_rfl)) (by kernel_rfl) (by kernel_rfl)
set_option maxRecDepth 100000 in
theorem orphansOrder_lifted (os : Os) (started : os.Started) (H : Type) (enc : TypeId × Value → H) :
    ReturnsInHanded {} Tryd.checked os 7 .any (fun w args => (Rows.orphansOrderSpec.pre enc Tryd.prog Tryd.f7 [] false w args ∧ laidMetH Tryd.prog [("ragpicker/words.fields", Rows.laid_ragpicker_words_fields)] w) ∧ sizedMet enc Tryd.prog Tryd.f7 (OpenSpec.ofChange Rows.orphansOrderSpec) false w args)
      (Rows.orphansOrderSpec.post enc Tryd.prog Tryd.f7 false true false false) := by
  refine returnsInHanded_of_change_and (C := Tryd.checked) (X := fun w _ => laidMetH Tryd.prog [("ragpicker/words.fields", Rows.laid_ragpicker_words_fields)] w) (fun _ _ _ hh h => h.of_heap hh) hown started (by kernel_rfl) Tryd.func7
    (ChangeSpec.witness_shaped (enc := enc) (C := Tryd.checked) (os := os) (X := fun w _ => laidMetH Tryd.prog [("ragpicker/words.fields", Rows.laid_ragpicker_words_fields)] w) false (World.doorLaid Tryd.prog 400 os) #[.slice none 0 0, .int .u8 0] 8 rfl (World.shaped_of_RefB (by kernel_rfl) (by kernel_rfl)) (by kernel_rfl) (by kernel_rfl) (by kernel_rfl) (orphansOrder_met os _)) ?_
  intro W base args ds gs before hval0 hW _ _ hL _
  exact law_contractT Tryd.params7 orphansOrder_runs hlaidOut (of_decide_eq_true (by kernel_rfl)) (by kernel_rfl) Tryd.underlying4 rfl
    (fun ds hl => by match ds, hl with | [d0, d1], _ => exact ⟨rfl, rfl, rfl⟩) W base args ds gs before hval0 hW (tabs_laid (by kernel_rfl) orphansOrder_tabs hL)

theorem orphansOrder_row : Rows.OrphansOrderSaid :=
  OpenClaim.holds_of_wide 7 Tryd.f7 rfl rfl rfl rfl rfl rfl rfl ⟨rfl, rfl, rfl, rfl, rfl⟩ rfl rfl rfl rfl rfl (by kernel_rfl) Tryd.func7 (by kernel_rfl)
    (of_decide_eq_true (by kernel_rfl)) (by unfold Func.isWrapper; first | (rw [if_pos (by decide +kernel)]; kernel_rfl) | (rw [if_neg (by decide +kernel)]; exact ⟨rfl, rfl⟩))
    (fun os started H enc _ => orphansOrder_lifted os started H enc)

theorem orphansOrder_holds : Rows.OrphansOrderCardSaid :=
  Claim7.holds_tied_plain_at .later [] [.data] true (true, "9d093ca4ff3baad62d12e56c880e18e1afdaedaaab76b1b6bc1172113a6b8a5e") true orphansOrder_row (fun _ h => by cases h) (by kernel_rfl) (fun _ h => by cases h) orphansOrder_row_tie rfl ⟨rfl, rfl⟩ (by kernel_rfl) rfl
    (fun f fn hf hfn => by
      obtain rfl : f = 7 := Option.some.inj ((show Tryd.prog.funcNamed "ragpicker/ragpickerlaw12.OrphansOrder" = some 7 by kernel_rfl).symm.trans hf) |>.symm
      obtain rfl : fn = Tryd.f7 := (Option.some.inj (Tryd.func7.symm.trans hfn)).symm
      exact ⟨by kernel_rfl, fun j t ht => by
        rw [Tryd.params7] at ht
        have hm : t ∈ [22, 5] := by simpa using Array.mem_of_getElem? ht
        have hall : ([22, 5].all fun u => !Tryd.prog.wantsStandIn u) = true := by kernel_rfl
        exact (show Tryd.prog.wantsStandIn t = false by simpa using List.all_eq_true.1 hall t hm)⟩)
    (by kernel_rfl)

#print axioms orphansOrder_holds
end Go.Proofs.YtmndhjodbnojdaaDoor
