/-
  For all inputs, TablesPlay returns true; its arguments read as before. No condition.
-/
import Derived.Test.YtlpcdjhojfopjaaGreatDoorEvDropK
import Derived.Test.YtlpcdjhojfopjaaGreatDoorTie
import Derived.Test.YtlpcdjhojfopjaaGreatDoorCards
import Derived.LaidMore
import Derived.ChangeMaps5
import Derived.OpenShut
import Derived.SevenTiedAt
set_option linter.unusedSimpArgs false
set_option linter.unusedVariables false
namespace Go.Proofs.YtlpcdjhojfopjaaGreatDoor
open Go.Ev Go.ChangeShapes Go.WideShapes Go.ChangeAt Go.RowKit
set_option maxRecDepth 100000
section
variable (m : Nat) (f : Nat → Nat → AV) (q : Nat) (h : Nat → Nat → AV)
theorem ts_1 : (callF Ets 5000 5 [AV.ss 6 1 0 m none, AV.ss 4 2 0 q none] ⟨(tabsH [(0, tab)] ++ [(1, AO.arr 6 asSh true m f), (2, AO.arr 4 wSh true q h)]), 3, gnm 0, [Hint.b true], [], [], false⟩).map (fun x => (x.1, x.2.ob, noneIn (tabsH [(0, tab)] ++ [(1, AO.arr 6 asSh true m f), (2, AO.arr 4 wSh true q h)]) x.2.wr)) =
 some (AV.bool true, [TabIs tab (tabF tab),
 decide (Int.ofNat m > 300) = true], true) := by kernel_rfl
theorem ts_2 : (callF Ets 5000 5 [AV.ss 6 1 0 m none, AV.ss 4 2 0 q none] ⟨(tabsH [(0, tab)] ++ [(1, AO.arr 6 asSh true m f), (2, AO.arr 4 wSh true q h)]), 3, gnm 0, [Hint.b false, Hint.b true], [], [], false⟩).map (fun x => (x.1, x.2.ob, noneIn (tabsH [(0, tab)] ++ [(1, AO.arr 6 asSh true m f), (2, AO.arr 4 wSh true q h)]) x.2.wr)) =
 some (AV.bool true, [TabIs tab (tabF tab),
 decide (Int.ofNat q > 300) = true,
 decide (Int.ofNat m > 300) = false], true) := by kernel_rfl
theorem ts_3 : (callF Ets 5000 5 [AV.ss 6 1 0 m none, AV.ss 4 2 0 q none] ⟨(tabsH [(0, tab)] ++ [(1, AO.arr 6 asSh true m f), (2, AO.arr 4 wSh true q h)]), 3, gnm 0, [Hint.b false, Hint.b false, Hint.lp [0, 5, 6, 7] (Ex.exit 0) (tpX m f (tpN f h q m).S (tpN f h q m).R).tmps (tpX m f (tpN f h q m).S (tpN f h q m).R).hp.heap 10 [3, 4, 5, 6]], [], [], false⟩).map (fun x => (x.1, x.2.ob, noneIn (tabsH [(0, tab)] ++ [(1, AO.arr 6 asSh true m f), (2, AO.arr 4 wSh true q h)]) x.2.wr)) =
 some (AV.bool true, [TabIs tab (tabF tab),
 (tpN f h q m).R.D.n ≤ (tpN f h q m).R.D.n,
 (tpN f h q m).R.D.n ≤ 100000,
 FinM (tpN f h q m).S.M 1000000,
 wlF (tpN f h q m).S.M = rwl (dOf (tpN f h q m).R.D.n (wdF (tpN f h q m).R.D.W)) (tpN f h q m).R.D.n,
 tpLP m f q h,
 q ≤ q,
 q ≤ 300,
 ∀ (i : Nat), i < q → 0 ≤ avInt (h i 0),
 decide (Int.ofNat q > 300) = false,
 decide (Int.ofNat m > 300) = false], true) := by kernel_rfl
theorem ts_runs (hr : ∀ i, i < m → 0 ≤ avInt (f i 2) ∧ (0 ≤ avInt (f i 5) ∧ avInt (f i 5) < 18446744073709551616) ∧ avInt (f i 1) < 9223372036854775808) (hh : ∀ i, i < q → 0 ≤ avInt (h i 0) ∧ 0 ≤ avInt (h i 3) ∧ avInt (h i 3) < 18446744073709551616) : Runs (tsRun m f q h) := by
  have hlp := fun h1 h2 => tp_lp m f q h h1 h2 hr (fun i hi => (hh i hi).2)
  have hE := tpN_ok (f := f) (h := h) (q := q) (msN_u q (fun i hi => (hh i hi).2)) m (fun k hk => (hr k hk).2)
  have hfine := hE.f.fine
  have hfin : m ≤ 300 → q ≤ 300 → FinM (tpN f h q m).S.M 1000000 := fun h1 h2 => hfine.fin.mono (by omega)
  have hw := wlF_rwl hfine.dd hfine.both.agr
  cases h1 : (decide (Int.ofNat m > 300)) with
  | true =>
    have g1 := of_decide_eq_true h1
    try simp only [Int.ofNat_eq_natCast, ge_iff_le, gt_iff_lt, Int.not_lt, Int.not_le] at g1
    refine ⟨_, _, _, ts_1 m f q h, .inl rfl, (ob_cons (tabIs_self _) (ob_cons h1 ob_nil))⟩
  | false =>
    have g1 := of_decide_eq_false h1
    try simp only [Int.ofNat_eq_natCast, ge_iff_le, gt_iff_lt, Int.not_lt, Int.not_le] at g1
    cases h2 : (decide (Int.ofNat q > 300)) with
    | true =>
      have g2 := of_decide_eq_true h2
      try simp only [Int.ofNat_eq_natCast, ge_iff_le, gt_iff_lt, Int.not_lt, Int.not_le] at g2
      refine ⟨_, _, _, ts_2 m f q h, .inl rfl, (ob_cons (tabIs_self _) (ob_cons h2 (ob_cons h1 ob_nil)))⟩
    | false =>
      have g2 := of_decide_eq_false h2
      try simp only [Int.ofNat_eq_natCast, ge_iff_le, gt_iff_lt, Int.not_lt, Int.not_le] at g2
      refine ⟨_, _, _, ts_3 m f q h, .inl rfl, (ob_cons (tabIs_self _) (ob_cons (Nat.le_refl _) (ob_cons ?_ (ob_cons ?_ (ob_cons ?_ (ob_cons ?_ (ob_cons (Nat.le_refl _) (ob_cons ?_ (ob_cons ?_ (ob_cons h2 (ob_cons h1 ob_nil)))))))))))⟩
      ·
        first | exact hlp (by omega) (by omega) | exact hfin (by omega) (by omega) | exact hw | exact hwb | exact fun i hi => (hh i hi).1 | exact tabIs_self _ | (have := hfine.num; omega) | omega | (simp; done) | exact Nat.le_refl _ | omega
      ·
        first | exact hlp (by omega) (by omega) | exact hfin (by omega) (by omega) | exact hw | exact hwb | exact fun i hi => (hh i hi).1 | exact tabIs_self _ | (have := hfine.num; omega) | omega | (simp; done) | trivial
      ·
        first | exact hlp (by omega) (by omega) | exact hfin (by omega) (by omega) | exact hw | exact hwb | exact fun i hi => (hh i hi).1 | exact tabIs_self _ | (have := hfine.num; omega) | omega | (simp; done) | rfl
      ·
        first | exact hlp (by omega) (by omega) | exact hfin (by omega) (by omega) | exact hw | exact hwb | exact fun i hi => (hh i hi).1 | exact tabIs_self _ | (have := hfine.num; omega) | omega | (simp; done) | trivial
      ·
        first | exact hlp (by omega) (by omega) | exact hfin (by omega) (by omega) | exact hw | exact hwb | exact fun i hi => (hh i hi).1 | exact tabIs_self _ | (have := hfine.num; omega) | omega | (simp; done) | exact Nat.le_refl _ | omega
      ·
        first | exact hlp (by omega) (by omega) | exact hfin (by omega) (by omega) | exact hw | exact hwb | exact fun i hi => (hh i hi).1 | exact tabIs_self _ | (have := hfine.num; omega) | omega | (simp; done) | exact fun _ => rfl
end

end Go.Proofs.YtlpcdjhojfopjaaGreatDoor
