/-
  For all inputs, TablesFull returns true; its arguments read as before. No condition.
-/
import Derived.Test.YtmndhjodbnojdaaDoorJTxDef
import Derived.Test.YtmndhjodbnojdaaDoorTie
import Derived.Test.YtmndhjodbnojdaaDoorCards
import Derived.LaidMore
import Derived.ChangeMaps5
import Derived.OpenShut
import Derived.SevenTiedAt
set_option linter.unusedSimpArgs false
set_option linter.unusedVariables false
namespace Go.Proofs.YtmndhjodbnojdaaDoor
open Go.Ev Go.ChangeShapes Go.WideShapes Go.ChangeAt Go.RowKit
set_option maxRecDepth 100000
theorem tga_1 (z0 : Int) (z1 : Int) (m : Nat) (f : Nat → Nat → AV) (x : Int) : (callF ETx 6000 5 [AV.agg [AV.sym IntKind.u8 z0, AV.sym IntKind.u8 z1], AV.ss 1 1 0 m none, AV.sym IntKind.u64 x] ⟨(tabsH [(0, tab)] ++ [(1, AO.arr 1 [CK.int IntKind.u8] true m f)]), 2, gnm 0, [Hint.b true], [], [], false⟩).map (fun x => (x.1, x.2.ob, noneIn (tabsH [(0, tab)] ++ [(1, AO.arr 1 [CK.int IntKind.u8] true m f)]) x.2.wr)) =
 some (AV.bool true, [TabIs tab (tabF tab),
 decide (Int.ofNat m > 20) = true], true) := by kernel_rfl
theorem tgb_1 (z0 : Int) (z1 : Int) (m : Nat) (f : Nat → Nat → AV) (x : Int) : (callF ETx 6000 5 [AV.agg [AV.sym IntKind.u8 z0, AV.sym IntKind.u8 z1], AV.ss 1 1 0 m none, AV.sym IntKind.u64 x] ⟨(tabsH [(0, tab)] ++ [(1, AO.arr 1 [CK.int IntKind.u8] true m f)]), 2, gnm 0, [Hint.b false, Hint.b true, Hint.lp [1, 2, 7, 8, 9, 10, 11, 12] (Ex.exit 0) (tflX m f x (IntKind.i64.wrap ((IntKind.i64.wrap z0).tmod 4 + 1)) ((IntKind.i64.wrap z1).tmod (IntKind.i64.wrap (IntKind.i64.wrap ((IntKind.i64.wrap z0).tmod 4 + 1) + 1))) (IntKind.i64.wrap (IntKind.i64.wrap (IntKind.i64.wrap ((IntKind.i64.wrap z0).tmod 4 + 1) * 4) - 4)) (mStore (mStore ms0 5 0 0 (IntKind.u64.wrap (IntKind.i64.wrap ((IntKind.i64.wrap z0).tmod 4 + 1)))) 7 ((IntKind.i64.wrap z1).tmod (IntKind.i64.wrap (IntKind.i64.wrap ((IntKind.i64.wrap z0).tmod 4 + 1) + 1))) 0 4294967296) z0 z1 (IntKind.i64.wrap (IntKind.i64.wrap (IntKind.i64.wrap ((IntKind.i64.wrap z0).tmod 4 + 1) * 4) - 4)).toNat).tmps (tflX m f x (IntKind.i64.wrap ((IntKind.i64.wrap z0).tmod 4 + 1)) ((IntKind.i64.wrap z1).tmod (IntKind.i64.wrap (IntKind.i64.wrap ((IntKind.i64.wrap z0).tmod 4 + 1) + 1))) (IntKind.i64.wrap (IntKind.i64.wrap (IntKind.i64.wrap ((IntKind.i64.wrap z0).tmod 4 + 1) * 4) - 4)) (mStore (mStore ms0 5 0 0 (IntKind.u64.wrap (IntKind.i64.wrap ((IntKind.i64.wrap z0).tmod 4 + 1)))) 7 ((IntKind.i64.wrap z1).tmod (IntKind.i64.wrap (IntKind.i64.wrap ((IntKind.i64.wrap z0).tmod 4 + 1) + 1))) 0 4294967296) z0 z1 (IntKind.i64.wrap (IntKind.i64.wrap (IntKind.i64.wrap ((IntKind.i64.wrap z0).tmod 4 + 1) * 4) - 4)).toNat).hp.heap 6 [5], Hint.b false, Hint.lp [1, 7, 8, 11, 20] (Ex.exit 4) (tqlX m f (IntKind.i64.wrap ((IntKind.i64.wrap z0).tmod 4 + 1)) ((IntKind.i64.wrap z1).tmod (IntKind.i64.wrap (IntKind.i64.wrap ((IntKind.i64.wrap z0).tmod 4 + 1) + 1))) (fiN x (mStore (mStore ms0 5 0 0 (IntKind.u64.wrap (IntKind.i64.wrap ((IntKind.i64.wrap z0).tmod 4 + 1)))) 7 ((IntKind.i64.wrap z1).tmod (IntKind.i64.wrap (IntKind.i64.wrap ((IntKind.i64.wrap z0).tmod 4 + 1) + 1))) 0 4294967296) (IntKind.i64.wrap (IntKind.i64.wrap (IntKind.i64.wrap ((IntKind.i64.wrap z0).tmod 4 + 1) * 4) - 4)).toNat).sn (jdY (fiN x (mStore (mStore ms0 5 0 0 (IntKind.u64.wrap (IntKind.i64.wrap ((IntKind.i64.wrap z0).tmod 4 + 1)))) 7 ((IntKind.i64.wrap z1).tmod (IntKind.i64.wrap (IntKind.i64.wrap ((IntKind.i64.wrap z0).tmod 4 + 1) + 1))) 0 4294967296) (IntKind.i64.wrap (IntKind.i64.wrap (IntKind.i64.wrap ((IntKind.i64.wrap z0).tmod 4 + 1) * 4) - 4)).toNat).S 99) m).tmps (tqlX m f (IntKind.i64.wrap ((IntKind.i64.wrap z0).tmod 4 + 1)) ((IntKind.i64.wrap z1).tmod (IntKind.i64.wrap (IntKind.i64.wrap ((IntKind.i64.wrap z0).tmod 4 + 1) + 1))) (fiN x (mStore (mStore ms0 5 0 0 (IntKind.u64.wrap (IntKind.i64.wrap ((IntKind.i64.wrap z0).tmod 4 + 1)))) 7 ((IntKind.i64.wrap z1).tmod (IntKind.i64.wrap (IntKind.i64.wrap ((IntKind.i64.wrap z0).tmod 4 + 1) + 1))) 0 4294967296) (IntKind.i64.wrap (IntKind.i64.wrap (IntKind.i64.wrap ((IntKind.i64.wrap z0).tmod 4 + 1) * 4) - 4)).toNat).sn (jdY (fiN x (mStore (mStore ms0 5 0 0 (IntKind.u64.wrap (IntKind.i64.wrap ((IntKind.i64.wrap z0).tmod 4 + 1)))) 7 ((IntKind.i64.wrap z1).tmod (IntKind.i64.wrap (IntKind.i64.wrap ((IntKind.i64.wrap z0).tmod 4 + 1) + 1))) 0 4294967296) (IntKind.i64.wrap (IntKind.i64.wrap (IntKind.i64.wrap ((IntKind.i64.wrap z0).tmod 4 + 1) * 4) - 4)).toNat).S 99) m).hp.heap 6 []], [], [], false⟩).map (fun x => (x.1, x.2.ob, noneIn (tabsH [(0, tab)] ++ [(1, AO.arr 1 [CK.int IntKind.u8] true m f)]) x.2.wr)) =
 some (AV.bool true, [TabIs tab (tabF tab),
 tqlLP m f (IntKind.i64.wrap ((IntKind.i64.wrap z0).tmod 4 + 1)) ((IntKind.i64.wrap z1).tmod (IntKind.i64.wrap (IntKind.i64.wrap ((IntKind.i64.wrap z0).tmod 4 + 1) + 1))) (fiN x (mStore (mStore ms0 5 0 0 (IntKind.u64.wrap (IntKind.i64.wrap ((IntKind.i64.wrap z0).tmod 4 + 1)))) 7 ((IntKind.i64.wrap z1).tmod (IntKind.i64.wrap (IntKind.i64.wrap ((IntKind.i64.wrap z0).tmod 4 + 1) + 1))) 0 4294967296) (IntKind.i64.wrap (IntKind.i64.wrap (IntKind.i64.wrap ((IntKind.i64.wrap z0).tmod 4 + 1) * 4) - 4)).toNat).sn (jdY (fiN x (mStore (mStore ms0 5 0 0 (IntKind.u64.wrap (IntKind.i64.wrap ((IntKind.i64.wrap z0).tmod 4 + 1)))) 7 ((IntKind.i64.wrap z1).tmod (IntKind.i64.wrap (IntKind.i64.wrap ((IntKind.i64.wrap z0).tmod 4 + 1) + 1))) 0 4294967296) (IntKind.i64.wrap (IntKind.i64.wrap (IntKind.i64.wrap ((IntKind.i64.wrap z0).tmod 4 + 1) * 4) - 4)).toNat).S 99),
 (jdE (fiN x (mStore (mStore ms0 5 0 0 (IntKind.u64.wrap (IntKind.i64.wrap ((IntKind.i64.wrap z0).tmod 4 + 1)))) 7 ((IntKind.i64.wrap z1).tmod (IntKind.i64.wrap (IntKind.i64.wrap ((IntKind.i64.wrap z0).tmod 4 + 1) + 1))) 0 4294967296) (IntKind.i64.wrap (IntKind.i64.wrap (IntKind.i64.wrap ((IntKind.i64.wrap z0).tmod 4 + 1) * 4) - 4)).toNat).S 99 != 5) = false,
 tabF tab = tabF tab,
 JdOk (fiN x (mStore (mStore ms0 5 0 0 (IntKind.u64.wrap (IntKind.i64.wrap ((IntKind.i64.wrap z0).tmod 4 + 1)))) 7 ((IntKind.i64.wrap z1).tmod (IntKind.i64.wrap (IntKind.i64.wrap ((IntKind.i64.wrap z0).tmod 4 + 1) + 1))) 0 4294967296) (IntKind.i64.wrap (IntKind.i64.wrap (IntKind.i64.wrap ((IntKind.i64.wrap z0).tmod 4 + 1) * 4) - 4)).toNat).S 99,
 tflLP m f x (IntKind.i64.wrap ((IntKind.i64.wrap z0).tmod 4 + 1)) ((IntKind.i64.wrap z1).tmod (IntKind.i64.wrap (IntKind.i64.wrap ((IntKind.i64.wrap z0).tmod 4 + 1) + 1))) (IntKind.i64.wrap (IntKind.i64.wrap (IntKind.i64.wrap ((IntKind.i64.wrap z0).tmod 4 + 1) * 4) - 4)) (mStore (mStore ms0 5 0 0 (IntKind.u64.wrap (IntKind.i64.wrap ((IntKind.i64.wrap z0).tmod 4 + 1)))) 7 ((IntKind.i64.wrap z1).tmod (IntKind.i64.wrap (IntKind.i64.wrap ((IntKind.i64.wrap z0).tmod 4 + 1) + 1))) 0 4294967296) z0 z1,
 (0 : Int) ≤ (7 : Int),
 TabIs tab (tabF tab),
 (0 : Int) ≤ (0 : Int),
 (0 : Int) < (4294967296 : Int),
 decide ((IntKind.i64.wrap z1).tmod (IntKind.i64.wrap (IntKind.i64.wrap ((IntKind.i64.wrap z0).tmod 4 + 1) + 1)) < IntKind.i64.wrap ((IntKind.i64.wrap z0).tmod 4 + 1)) = true,
 decide (IntKind.i64.wrap (IntKind.i64.wrap ((IntKind.i64.wrap z0).tmod 4 + 1) + 1) ≠ 0) = true,
 (0 : Int) ≤ (5 : Int),
 decide (Int.ofNat m > 20) = false], true) := by kernel_rfl
theorem tgc_1 (z0 : Int) (z1 : Int) (m : Nat) (f : Nat → Nat → AV) (x : Int) : (callF ETx 6000 5 [AV.agg [AV.sym IntKind.u8 z0, AV.sym IntKind.u8 z1], AV.ss 1 1 0 m none, AV.sym IntKind.u64 x] ⟨(tabsH [(0, tab)] ++ [(1, AO.arr 1 [CK.int IntKind.u8] true m f)]), 2, gnm 0, [Hint.b false, Hint.b false, Hint.lp [1, 2, 7, 8, 9, 10, 11, 12] (Ex.exit 0) (tflX m f x (IntKind.i64.wrap ((IntKind.i64.wrap z0).tmod 4 + 1)) ((IntKind.i64.wrap z1).tmod (IntKind.i64.wrap (IntKind.i64.wrap ((IntKind.i64.wrap z0).tmod 4 + 1) + 1))) (IntKind.i64.wrap (IntKind.i64.wrap ((IntKind.i64.wrap z0).tmod 4 + 1) * 4)) (mStore ms0 5 0 0 (IntKind.u64.wrap (IntKind.i64.wrap ((IntKind.i64.wrap z0).tmod 4 + 1)))) z0 z1 (IntKind.i64.wrap (IntKind.i64.wrap ((IntKind.i64.wrap z0).tmod 4 + 1) * 4)).toNat).tmps (tflX m f x (IntKind.i64.wrap ((IntKind.i64.wrap z0).tmod 4 + 1)) ((IntKind.i64.wrap z1).tmod (IntKind.i64.wrap (IntKind.i64.wrap ((IntKind.i64.wrap z0).tmod 4 + 1) + 1))) (IntKind.i64.wrap (IntKind.i64.wrap ((IntKind.i64.wrap z0).tmod 4 + 1) * 4)) (mStore ms0 5 0 0 (IntKind.u64.wrap (IntKind.i64.wrap ((IntKind.i64.wrap z0).tmod 4 + 1)))) z0 z1 (IntKind.i64.wrap (IntKind.i64.wrap ((IntKind.i64.wrap z0).tmod 4 + 1) * 4)).toNat).hp.heap 6 [5], Hint.b false, Hint.lp [1, 7, 8, 11, 20] (Ex.exit 4) (tqlX m f (IntKind.i64.wrap ((IntKind.i64.wrap z0).tmod 4 + 1)) ((IntKind.i64.wrap z1).tmod (IntKind.i64.wrap (IntKind.i64.wrap ((IntKind.i64.wrap z0).tmod 4 + 1) + 1))) (fiN x (mStore ms0 5 0 0 (IntKind.u64.wrap (IntKind.i64.wrap ((IntKind.i64.wrap z0).tmod 4 + 1)))) (IntKind.i64.wrap (IntKind.i64.wrap ((IntKind.i64.wrap z0).tmod 4 + 1) * 4)).toNat).sn (jdY (fiN x (mStore ms0 5 0 0 (IntKind.u64.wrap (IntKind.i64.wrap ((IntKind.i64.wrap z0).tmod 4 + 1)))) (IntKind.i64.wrap (IntKind.i64.wrap ((IntKind.i64.wrap z0).tmod 4 + 1) * 4)).toNat).S 99) m).tmps (tqlX m f (IntKind.i64.wrap ((IntKind.i64.wrap z0).tmod 4 + 1)) ((IntKind.i64.wrap z1).tmod (IntKind.i64.wrap (IntKind.i64.wrap ((IntKind.i64.wrap z0).tmod 4 + 1) + 1))) (fiN x (mStore ms0 5 0 0 (IntKind.u64.wrap (IntKind.i64.wrap ((IntKind.i64.wrap z0).tmod 4 + 1)))) (IntKind.i64.wrap (IntKind.i64.wrap ((IntKind.i64.wrap z0).tmod 4 + 1) * 4)).toNat).sn (jdY (fiN x (mStore ms0 5 0 0 (IntKind.u64.wrap (IntKind.i64.wrap ((IntKind.i64.wrap z0).tmod 4 + 1)))) (IntKind.i64.wrap (IntKind.i64.wrap ((IntKind.i64.wrap z0).tmod 4 + 1) * 4)).toNat).S 99) m).hp.heap 6 []], [], [], false⟩).map (fun x => (x.1, x.2.ob, noneIn (tabsH [(0, tab)] ++ [(1, AO.arr 1 [CK.int IntKind.u8] true m f)]) x.2.wr)) =
 some (AV.bool true, [TabIs tab (tabF tab),
 tqlLP m f (IntKind.i64.wrap ((IntKind.i64.wrap z0).tmod 4 + 1)) ((IntKind.i64.wrap z1).tmod (IntKind.i64.wrap (IntKind.i64.wrap ((IntKind.i64.wrap z0).tmod 4 + 1) + 1))) (fiN x (mStore ms0 5 0 0 (IntKind.u64.wrap (IntKind.i64.wrap ((IntKind.i64.wrap z0).tmod 4 + 1)))) (IntKind.i64.wrap (IntKind.i64.wrap ((IntKind.i64.wrap z0).tmod 4 + 1) * 4)).toNat).sn (jdY (fiN x (mStore ms0 5 0 0 (IntKind.u64.wrap (IntKind.i64.wrap ((IntKind.i64.wrap z0).tmod 4 + 1)))) (IntKind.i64.wrap (IntKind.i64.wrap ((IntKind.i64.wrap z0).tmod 4 + 1) * 4)).toNat).S 99),
 (jdE (fiN x (mStore ms0 5 0 0 (IntKind.u64.wrap (IntKind.i64.wrap ((IntKind.i64.wrap z0).tmod 4 + 1)))) (IntKind.i64.wrap (IntKind.i64.wrap ((IntKind.i64.wrap z0).tmod 4 + 1) * 4)).toNat).S 99 != 5) = false,
 tabF tab = tabF tab,
 JdOk (fiN x (mStore ms0 5 0 0 (IntKind.u64.wrap (IntKind.i64.wrap ((IntKind.i64.wrap z0).tmod 4 + 1)))) (IntKind.i64.wrap (IntKind.i64.wrap ((IntKind.i64.wrap z0).tmod 4 + 1) * 4)).toNat).S 99,
 tflLP m f x (IntKind.i64.wrap ((IntKind.i64.wrap z0).tmod 4 + 1)) ((IntKind.i64.wrap z1).tmod (IntKind.i64.wrap (IntKind.i64.wrap ((IntKind.i64.wrap z0).tmod 4 + 1) + 1))) (IntKind.i64.wrap (IntKind.i64.wrap ((IntKind.i64.wrap z0).tmod 4 + 1) * 4)) (mStore ms0 5 0 0 (IntKind.u64.wrap (IntKind.i64.wrap ((IntKind.i64.wrap z0).tmod 4 + 1)))) z0 z1,
 decide ((IntKind.i64.wrap z1).tmod (IntKind.i64.wrap (IntKind.i64.wrap ((IntKind.i64.wrap z0).tmod 4 + 1) + 1)) < IntKind.i64.wrap ((IntKind.i64.wrap z0).tmod 4 + 1)) = false,
 decide (IntKind.i64.wrap (IntKind.i64.wrap ((IntKind.i64.wrap z0).tmod 4 + 1) + 1) ≠ 0) = true,
 (0 : Int) ≤ (5 : Int),
 decide (Int.ofNat m > 20) = false], true) := by kernel_rfl
theorem tf_runs (z0 : Int) (z1 : Int) (m : Nat) (f : Nat → Nat → AV) (x : Int) (h0 : 0 ≤ z0 ∧ z0 < 256) (h1 : 0 ≤ z1 ∧ z1 < 256) (hr : ∀ i, i < m → 0 ≤ avInt (f i 0) ∧ avInt (f i 0) < 256) (hx : 0 ≤ x ∧ x < 18446744073709551616) : Runs (tfRun z0 z1 m f x) := by
  by_cases hm : (m : Int) > 20
  · have hgm : decide (Int.ofNat m > 20) = true := decide_eq_true hm
    refine ⟨_, _, _, tga_1 z0 z1 m f x, .inl rfl, (ob_cons (tabIs_self _) (ob_cons ?_ ob_nil))⟩
    ·
      first | with_reducible assumption | exact rfl | exact tabIs_self _ | exact hl1 | exact hl2 | exact hok | exact he5 | exact hls | exact hge | exact hne | exact hin | (simp; done) | (simp; omega) | omega | (apply Nat.ble_eq_true_of_le; omega) | (simp [Nat.blt_eq]; omega)
  have hgm : decide (Int.ofNat m > 20) = false := decide_eq_false hm
  have hn := tfN_is h0
  have hs := tfH_is h0 h1
  have en : tfN z0 = ((tfN z0).toNat : Int) := by omega
  have es : tfH z0 z1 = ((tfH z0 z1).toNat : Int) := by omega
  have eu : IntKind.u64.wrap (tfN z0) = ((tfN z0).toNat : Int) := by rw [u64w (by omega) (by omega)]; exact en
  have hne : decide (IntKind.i64.wrap (tfN z0 + 1) ≠ 0) = true := by rw [i64w (by omega) (by omega)]; exact decide_eq_true (by omega)
  have er : IntKind.i64.wrap (tfN z0 * 4) = tfN z0 * 4 := i64w (by omega) (by omega)
  have er2 : IntKind.i64.wrap (tfN z0 * 4 - 4) = tfN z0 * 4 - 4 := i64w (by omega) (by omega)
  by_cases hc : tfH z0 z1 < tfN z0
  · have hls : decide (tfH z0 z1 < tfN z0) = true := decide_eq_true hc
    have htb : TB (mStore (mStore ms0 5 0 0 (IntKind.u64.wrap (tfN z0))) 7 (tfH z0 z1) 0 4294967296) (tfN z0).toNat (tfH z0 z1).toNat (fun _ => 0) := by
      have := TB.shut (n := (tfN z0).toNat) (sh := (tfH z0 z1).toNat) (by omega) (by omega) (by omega)
      rw [← eu, ← es] at this; exact this
    have hrm : IntKind.i64.wrap (IntKind.i64.wrap (tfN z0 * 4) - 4) = (roomN (tfN z0).toNat (tfH z0 z1).toNat : Nat) := by
      rw [er, er2]; unfold roomN; rw [if_pos (by omega)]; omega
    have hl1 := tfl_lp m f x _ _ _ _ z0 z1 (by omega) hx en es (by omega) hrm htb
    have hff := fi_fu htb hx (by omega)
    have er3 : (IntKind.i64.wrap (IntKind.i64.wrap (tfN z0 * 4) - 4)).toNat = roomN (tfN z0).toNat (tfH z0 z1).toNat := by omega
    rw [← er3] at hff
    obtain ⟨hok, he, hfu⟩ := hff.1.full (w := 99) (by decide) (by decide)
    have he5 := bne_f he
    have hl2 := tql_lp m f _ _ _ _ (by omega) en (by omega) (by omega) hfu hff.2 hr
    have hfu0 : U64 (fiN x (mStore (mStore ms0 5 0 0 (IntKind.u64.wrap (tfN z0))) 7 (tfH z0 z1) 0 4294967296) (IntKind.i64.wrap (IntKind.i64.wrap (tfN z0 * 4) - 4)).toNat).S := by
      obtain ⟨ow, q, _⟩ := hff.1.ex; exact q.u
    unfold tfH tfN at *
    refine ⟨_, _, _, tgb_1 z0 z1 m f x, .inl rfl, (ob_cons (tabIs_self _) (ob_cons ?_ (ob_cons ?_ (ob_cons rfl (ob_cons ?_ (ob_cons ?_ (ob_cons (by decide) (ob_cons (tabIs_self _) (ob_cons (Int.le_refl _) (ob_cons (by decide) (ob_cons ?_ (ob_cons ?_ (ob_cons (by decide) (ob_cons ?_ ob_nil))))))))))))))⟩
    ·
      first | with_reducible assumption | exact rfl | exact tabIs_self _ | exact hl1 | exact hl2 | exact hok | exact he5 | exact hls | exact hge | exact hne | exact hin | (simp; done) | (simp; omega) | omega | trivial
    ·
      first | with_reducible assumption | exact rfl | exact tabIs_self _ | exact hl1 | exact hl2 | exact hok | exact he5 | exact hls | exact hge | exact hne | exact hin | (simp; done) | (simp; omega) | omega | (apply Nat.ble_eq_true_of_le; omega) | (simp [Nat.blt_eq]; omega)
    ·
      first | with_reducible assumption | exact rfl | exact tabIs_self _ | exact hl1 | exact hl2 | exact hok | exact he5 | exact hls | exact hge | exact hne | exact hin | (simp; done) | (simp; omega) | omega | trivial
    ·
      first | with_reducible assumption | exact rfl | exact tabIs_self _ | exact hl1 | exact hl2 | exact hok | exact he5 | exact hls | exact hge | exact hne | exact hin | (simp; done) | (simp; omega) | omega | trivial
    ·
      first | with_reducible assumption | exact rfl | exact tabIs_self _ | exact hl1 | exact hl2 | exact hok | exact he5 | exact hls | exact hge | exact hne | exact hin | (simp; done) | (simp; omega) | omega | (apply Nat.ble_eq_true_of_le; omega) | (simp [Nat.blt_eq]; omega)
    ·
      first | with_reducible assumption | exact rfl | exact tabIs_self _ | exact hl1 | exact hl2 | exact hok | exact he5 | exact hls | exact hge | exact hne | exact hin | (simp; done) | (simp; omega) | omega | (apply Nat.ble_eq_true_of_le; omega) | (simp [Nat.blt_eq]; omega)
    ·
      first | with_reducible assumption | exact rfl | exact tabIs_self _ | exact hl1 | exact hl2 | exact hok | exact he5 | exact hls | exact hge | exact hne | exact hin | (simp; done) | (simp; omega) | omega | (apply Nat.ble_eq_true_of_le; omega) | (simp [Nat.blt_eq]; omega)
  · have hls : decide (tfH z0 z1 < tfN z0) = false := decide_eq_false hc
    have htb : TB (mStore ms0 5 0 0 (IntKind.u64.wrap (tfN z0))) (tfN z0).toNat (tfH z0 z1).toNat (fun _ => 0) := by
      have := TB.begin_ (n := (tfN z0).toNat) (by omega) (by omega)
      rw [← eu] at this
      have e : (tfH z0 z1).toNat = (tfN z0).toNat := by omega
      rw [e]; exact this
    have hrm : IntKind.i64.wrap (tfN z0 * 4) = (roomN (tfN z0).toNat (tfH z0 z1).toNat : Nat) := by
      rw [er]; unfold roomN; rw [if_neg (by omega)]; omega
    have hl1 := tfl_lp m f x _ _ _ _ z0 z1 (by omega) hx en es (by omega) hrm htb
    have hff := fi_fu htb hx (by omega)
    have er3 : (IntKind.i64.wrap (tfN z0 * 4)).toNat = roomN (tfN z0).toNat (tfH z0 z1).toNat := by omega
    rw [← er3] at hff
    obtain ⟨hok, he, hfu⟩ := hff.1.full (w := 99) (by decide) (by decide)
    have he5 := bne_f he
    have hl2 := tql_lp m f _ _ _ _ (by omega) en (by omega) (by omega) hfu hff.2 hr
    unfold tfH tfN at *
    refine ⟨_, _, _, tgc_1 z0 z1 m f x, .inl rfl, (ob_cons (tabIs_self _) (ob_cons ?_ (ob_cons ?_ (ob_cons rfl (ob_cons ?_ (ob_cons ?_ (ob_cons ?_ (ob_cons ?_ (ob_cons (by decide) (ob_cons ?_ ob_nil))))))))))⟩
    ·
      first | with_reducible assumption | exact rfl | exact tabIs_self _ | exact hl1 | exact hl2 | exact hok | exact he5 | exact hls | exact hge | exact hne | exact hin | (simp; done) | (simp; omega) | omega | trivial
    ·
      first | with_reducible assumption | exact rfl | exact tabIs_self _ | exact hl1 | exact hl2 | exact hok | exact he5 | exact hls | exact hge | exact hne | exact hin | (simp; done) | (simp; omega) | omega | (apply Nat.ble_eq_true_of_le; omega) | (simp [Nat.blt_eq]; omega)
    ·
      first | with_reducible assumption | exact rfl | exact tabIs_self _ | exact hl1 | exact hl2 | exact hok | exact he5 | exact hls | exact hge | exact hne | exact hin | (simp; done) | (simp; omega) | omega | trivial
    ·
      first | with_reducible assumption | exact rfl | exact tabIs_self _ | exact hl1 | exact hl2 | exact hok | exact he5 | exact hls | exact hge | exact hne | exact hin | (simp; done) | (simp; omega) | omega | trivial
    ·
      first | with_reducible assumption | exact rfl | exact tabIs_self _ | exact hl1 | exact hl2 | exact hok | exact he5 | exact hls | exact hge | exact hne | exact hin | (simp; done) | (simp; omega) | omega | (apply Nat.ble_eq_true_of_le; omega) | (simp [Nat.blt_eq]; omega)
    ·
      first | with_reducible assumption | exact rfl | exact tabIs_self _ | exact hl1 | exact hl2 | exact hok | exact he5 | exact hls | exact hge | exact hne | exact hin | (simp; done) | (simp; omega) | omega | (apply Nat.ble_eq_true_of_le; omega) | (simp [Nat.blt_eq]; omega)
    ·
      first | with_reducible assumption | exact rfl | exact tabIs_self _ | exact hl1 | exact hl2 | exact hok | exact he5 | exact hls | exact hge | exact hne | exact hin | (simp; done) | (simp; omega) | omega | (apply Nat.ble_eq_true_of_le; omega) | (simp [Nat.blt_eq]; omega)
theorem hown : ownKnob Tryd.prog.godebug = none := by kernel_rfl
theorem hlaidOut : laidOutB Tryd.prog = true := by kernel_rfl
theorem k52 : flatK Tryd.prog 4 52 = some [.int .u8, .int .u8] := by kernel_rfl
theorem k5 : flatK Tryd.prog 4 5 = some [.int .u8] := by kernel_rfl
theorem tablesFull_tabs : TabsOk Tryd.prog [("ragpicker/words.fields", Rows.laid_ragpicker_words_fields)] [(0, tab)] := tabsOkB_ok (by kernel_rfl)
set_option maxRecDepth 100000 in
theorem tablesFull_runs : LawRunsT Tryd.prog 5 [52, 22, 34] [(0, tab)] := by
  intro H enc W base args ds p hval hA htab
  obtain ⟨v0, v1, v2, d0, d1, d2, p0, p1, p2, hargs, rfl, rfl, h0, h1, h2⟩ := trodAll_three (args := args.toArray) hA
  obtain rfl : args = [v0, v1, v2] := by simpa using congrArg Array.toList hargs
  obtain ⟨z0, rz0, z1, rz1, rfl⟩ := open_flat_arr Tryd.underlying52 k52 (hval 0 52 v0 rfl rfl) h0
  obtain ⟨fuel1, h1⟩ := h1
  obtain ⟨c1, l1, q1, rfl⟩ := okWide_slice Tryd.underlying22 (hval 1 22 v1 rfl rfl)
  obtain ⟨L1, len1, num1, bit1, hw1, hs1, hl1, hm1, hn1, hob1, hwf1⟩ := open_rows Tryd.underlying22 k5 (by kernel_rfl) (by decide) (okWide_spot Tryd.underlying22 (hval 1 22 _ rfl rfl)) (by simpa [Value.cells] using h1)
  have hs1 : L1.slice 1 0 len1 none = some (.slice c1 l1 q1) := hs1
  obtain ⟨xw, rfl, rxw⟩ := okWide_num Tryd.underlying34 (hval 2 34 v2 rfl rfl)
  obtain ⟨h, x, ob, hr, hx, hob⟩ := tf_runs z0 z1 len1 (rowAV [.int .u8] num1 bit1) xw (u8_range rz0) (u8_range rz1) (fun i hi => u8_range (hwf1 i hi 0 .u8 rfl)) (u64_range rxw)
  have e1 : inpT [(1, L1)] [(0, tab)] 1 = some L1 := inpT_of rfl
  exact run_lawG (W := W) (ρ := inpT [(1, L1)] [(0, tab)]) ETx_ok hr hx hob (heapRepT (heap := [(1, .arr 1 [.int .u8] true len1 (rowAV [.int .u8] num1 bit1))]) (ls := [(1, L1)]) (tabs := [(0, tab)]) (nxt := 2) rfl (by decide) rfl htab (rep_cons rfl rfl hob1 rep_nil)) (xs := [.agg #[.int .u8 z0, .int .u8 z1], .slice c1 l1 q1, .int .u64 xw])
    (by simp [denL, den, e1, hs1]) (inpT_fresh (nxt := 2) rfl (Nat.le_refl _)) (inpT_glob (nxt := 2) rfl (by decide))

theorem tablesFull_met (os : Os) (args : Array Value) : laidMetH Tryd.prog [("ragpicker/words.fields", Rows.laid_ragpicker_words_fields)] ((World.doorLaid Tryd.prog 400 os).forCall (fun _ _ => 0) ⟨#[], args, []⟩).memory :=
  laidMetH_of_parts3 (fuel := 8) (laidMet_of_run' 8 (by kernel_rfl) (by kernel_rfl)) (by kernel_rfl) (by kernel_rfl)
set_option maxRecDepth 100000 in
theorem tablesFull_lifted (os : Os) (started : os.Started) (H : Type) (enc : TypeId × Value → H) :
    ReturnsInHanded {} Tryd.checked os 5 .any (fun w args => (Rows.tablesFullSpec.pre enc Tryd.prog Tryd.f5 [] false w args ∧ laidMetH Tryd.prog [("ragpicker/words.fields", Rows.laid_ragpicker_words_fields)] w) ∧ sizedMet enc Tryd.prog Tryd.f5 (OpenSpec.ofChange Rows.tablesFullSpec) false w args)
      (Rows.tablesFullSpec.post enc Tryd.prog Tryd.f5 false true false false) := by
  refine returnsInHanded_of_change_and (C := Tryd.checked) (X := fun w _ => laidMetH Tryd.prog [("ragpicker/words.fields", Rows.laid_ragpicker_words_fields)] w) (fun _ _ _ hh h => h.of_heap hh) hown started (by kernel_rfl) Tryd.func5
    (ChangeSpec.witness_shaped (enc := enc) (C := Tryd.checked) (os := os) (X := fun w _ => laidMetH Tryd.prog [("ragpicker/words.fields", Rows.laid_ragpicker_words_fields)] w) false (World.doorLaid Tryd.prog 400 os) #[.agg #[.int .u8 0, .int .u8 0], .slice none 0 0, .int .u64 0] 8 rfl (World.shaped_of_RefB (by kernel_rfl) (by kernel_rfl)) (by kernel_rfl) (by kernel_rfl) (by kernel_rfl) (tablesFull_met os _)) ?_
  intro W base args ds gs before hval0 hW _ _ hL _
  exact law_contractT Tryd.params5 tablesFull_runs hlaidOut (of_decide_eq_true (by kernel_rfl)) (by kernel_rfl) Tryd.underlying4 rfl
    (fun ds hl => by match ds, hl with | [d0, d1, d2], _ => exact ⟨rfl, rfl, rfl⟩) W base args ds gs before hval0 hW (tabs_laid (by kernel_rfl) tablesFull_tabs hL)

theorem tablesFull_row : Rows.TablesFullSaid :=
  OpenClaim.holds_of_wide 5 Tryd.f5 rfl rfl rfl rfl rfl rfl rfl ⟨rfl, rfl, rfl, rfl, rfl⟩ rfl rfl rfl rfl rfl (by kernel_rfl) Tryd.func5 (by kernel_rfl)
    (of_decide_eq_true (by kernel_rfl)) (by unfold Func.isWrapper; first | (rw [if_pos (by decide +kernel)]; kernel_rfl) | (rw [if_neg (by decide +kernel)]; exact ⟨rfl, rfl⟩))
    (fun os started H enc _ => tablesFull_lifted os started H enc)

theorem tablesFull_holds : Rows.TablesFullCardSaid :=
  Claim7.holds_tied_plain_at .later [] [.data] true (true, "9d093ca4ff3baad62d12e56c880e18e1afdaedaaab76b1b6bc1172113a6b8a5e") true tablesFull_row (fun _ h => by cases h) (by kernel_rfl) (fun _ h => by cases h) tablesFull_row_tie rfl ⟨rfl, rfl⟩ (by kernel_rfl) rfl
    (fun f fn hf hfn => by
      obtain rfl : f = 5 := Option.some.inj ((show Tryd.prog.funcNamed "ragpicker/ragpickerlaw10.TablesFull" = some 5 by kernel_rfl).symm.trans hf) |>.symm
      obtain rfl : fn = Tryd.f5 := (Option.some.inj (Tryd.func5.symm.trans hfn)).symm
      exact ⟨by kernel_rfl, fun j t ht => by
        rw [Tryd.params5] at ht
        have hm : t ∈ [52, 22, 34] := by simpa using Array.mem_of_getElem? ht
        have hall : ([52, 22, 34].all fun u => !Tryd.prog.wantsStandIn u) = true := by kernel_rfl
        exact (show Tryd.prog.wantsStandIn t = false by simpa using List.all_eq_true.1 hall t hm)⟩)
    (by kernel_rfl)

#print axioms tablesFull_holds
end Go.Proofs.YtmndhjodbnojdaaDoor
