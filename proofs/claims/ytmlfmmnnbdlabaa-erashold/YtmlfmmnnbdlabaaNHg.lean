/-
  For all inputs, ErasHold returns true; its arguments read as before. No condition.
-/
import Derived.Test.YtmlfmmnnbdlabaaNHgDef
import Derived.Test.YtmlfmmnnbdlabaaEvDoor
set_option linter.unusedSimpArgs false
set_option linter.unusedVariables false
namespace Go.Proofs.Ytmlfmmnnbdlabaa
open Go.Ev Go.ChangeShapes Go.WideShapes Go.ChangeAt Go.RowKit
set_option maxRecDepth 100000
section
variable (ft : Int) (n : Nat) (g : Nat → Nat → AV) (sl ge : Int) (mk : Bool) (b ep er : Int)
theorem hgz_1 : (callF Ehd 6000 9 [AV.sym IntKind.u64 ft, AV.ss 1 1 0 n none, AV.agg [AV.sym IntKind.i64 sl, AV.sym IntKind.u32 ge, AV.symb mk, AV.sym IntKind.u64 b, AV.sym IntKind.u64 ep, AV.sym IntKind.u64 er]] ⟨[(1, AO.arr 1 [CK.int IntKind.u8] true n g)], 2, gnm 0, [Hint.b true], [], [], false⟩).map (fun x => (x.1, x.2.ob, noneIn [(1, AO.arr 1 [CK.int IntKind.u8] true n g)] x.2.wr)) =
 some (AV.bool true, [decide (Int.ofNat n > 100) = true], true) := by kernel_rfl
theorem hga_1 (s : HS) : (callF Ehd 6000 9 [AV.sym IntKind.u64 ft, AV.ss 1 1 0 n none, AV.agg [AV.sym IntKind.i64 sl, AV.sym IntKind.u32 ge, AV.symb mk, AV.sym IntKind.u64 b, AV.sym IntKind.u64 ep, AV.sym IntKind.u64 er]] ⟨[(1, AO.arr 1 [CK.int IntKind.u8] true n g)], 2, gnm 0, [Hint.b false, Hint.b false, Hint.lp [1, 5, 7, 8, 9, 10, 11, 12, 13] (Ex.exit 0) (hdX n g sl ge mk b ep er (ft.tmod 1099511627776) s).tmps (hdX n g sl ge mk b ep er (ft.tmod 1099511627776) s).hp.heap 4909636380052967302138465595240308512376935270932053428379213333542014641076621786075607814410015092882483011113258623960128940310330272066908685598716 [], Hint.b false, Hint.b true, Hint.b false, Hint.b false, Hint.b false, Hint.b false, Hint.node [], Hint.node [(6, [Hint.b true]), (9, [Hint.b false]), (12, [Hint.b true])]], [], [], false⟩).map (fun x => (x.1, x.2.ob, noneIn [(1, AO.arr 1 [CK.int IntKind.u8] true n g)] x.2.wr)) =
 some (AV.bool true, [(!decide (srch (ixfP (skAl (memPut (memPut s.X.M 8 3 4 0) 8 3 5 0)) (skAl (memPut (memPut s.X.M 8 3 4 0) 8 3 5 0)) (some (skAl (memPut (memPut s.X.M 8 3 4 0) 8 3 5 0))) false (stF (memPut (memPut s.X.M 8 3 4 0) 8 3 5 0)) sl ge mk b ep er) (skAl (memPut (memPut s.X.M 8 3 4 0) 8 3 5 0)) (fun i => Int.ofNat i) (-1) ≥ 0)) = true,
 skAl (memPut (memPut s.X.M 8 3 4 0) 8 3 5 0) ≤ skAl (memPut (memPut s.X.M 8 3 4 0) 8 3 5 0),
 skAl (memPut (memPut s.X.M 8 3 4 0) 8 3 5 0) ≤ 1000000,
 0 ≤ mget (memPut (memPut s.X.M 8 3 4 0) 8 3 5 0) (key 5 0 0),
 mget (memPut (memPut s.X.M 8 3 4 0) 8 3 5 0) (key 5 0 0) ≠ 0,
 (!decide (srch (ixfP (skAl (memPut s.X.M 8 3 4 0)) (skAl (memPut s.X.M 8 3 4 0)) (some (skAl (memPut s.X.M 8 3 4 0))) false (stF (memPut s.X.M 8 3 4 0)) sl ge mk b ep er) (skAl (memPut s.X.M 8 3 4 0)) (fun i => Int.ofNat i) (-1) ≥ 0)) = true,
 skAl (memPut s.X.M 8 3 4 0) ≤ skAl (memPut s.X.M 8 3 4 0),
 skAl (memPut s.X.M 8 3 4 0) ≤ 1000000,
 (0 : Int) ≤ (8 : Int),
 0 ≤ mget (memPut s.X.M 8 3 4 0) (key 5 0 0),
 mget (memPut s.X.M 8 3 4 0) (key 5 0 0) ≠ 0,
 (0 : Int) ≤ (8 : Int),
 (((!decide (srch (ixfP (skAl s.X.M) (skAl s.X.M) (some (skAl s.X.M)) false (stF s.X.M) sl ge mk b ep er) (skAl s.X.M) (fun i => Int.ofNat i) (-1) ≥ 0)) == decide (er ≥ ft.tmod 1099511627776)) == true) = false,
 skAl s.X.M ≤ skAl s.X.M,
 skAl s.X.M ≤ 1000000,
 (mget s.X.M (key 8 3 5) != IntKind.u64.wrap (s.high + 1)) = false,
 (mget s.X.M (key 8 3 4) != IntKind.u64.wrap (ft.tmod 1099511627776 + 1)) = false,
 decide (b ≤ s.high) = true,
 0 ≤ mget s.X.M (key 5 0 0),
 mget s.X.M (key 5 0 0) ≠ 0,
 hdLP n g sl ge mk b ep er (ft.tmod 1099511627776) (hd0 (ft.tmod 1099511627776)) s,
 (IntKind.u64.wrap (mget (memPut (memPut (memPut (fun x => none) 2 0 0 (ft.tmod 1099511627776)) 5 0 0 1) 8 3 0 1) (key 2 0 0) + 1) != IntKind.u64.wrap (ft.tmod 1099511627776 + 1)) = false,
 (0 : Int) ≤ (8 : Int),
 (0 : Int) ≤ (8 : Int),
 (0 : Int) ≤ (8 : Int),
 (0 : Int) ≤ (5 : Int),
 (0 : Int) ≤ (2 : Int),
 decide (Int.ofNat n > 100) = false], true) := by kernel_rfl
theorem hgb_1 (s : HS) : (callF Ehd 6000 9 [AV.sym IntKind.u64 ft, AV.ss 1 1 0 n none, AV.agg [AV.sym IntKind.i64 sl, AV.sym IntKind.u32 ge, AV.symb mk, AV.sym IntKind.u64 b, AV.sym IntKind.u64 ep, AV.sym IntKind.u64 er]] ⟨[(1, AO.arr 1 [CK.int IntKind.u8] true n g)], 2, gnm 0, [Hint.b false, Hint.b false, Hint.lp [1, 5, 7, 8, 9, 10, 11, 12, 13] (Ex.exit 0) (hdX n g sl ge mk b ep er (ft.tmod 1099511627776) s).tmps (hdX n g sl ge mk b ep er (ft.tmod 1099511627776) s).hp.heap 4909636380052967302138465595240308512376935270932053428379213333542014641076621786075607814410015092882483011113258623960128940310330272066908685598716 [], Hint.b false, Hint.b false, Hint.b false, Hint.b false, Hint.b false, Hint.b false, Hint.node [], Hint.node [(6, [Hint.b true]), (9, [Hint.b false]), (12, [Hint.b true])]], [], [], false⟩).map (fun x => (x.1, x.2.ob, noneIn [(1, AO.arr 1 [CK.int IntKind.u8] true n g)] x.2.wr)) =
 some (AV.bool true, [(!decide (srch (ixfP (skAl (memPut (memPut s.X.M 8 3 4 0) 8 3 5 0)) (skAl (memPut (memPut s.X.M 8 3 4 0) 8 3 5 0)) (some (skAl (memPut (memPut s.X.M 8 3 4 0) 8 3 5 0))) false (stF (memPut (memPut s.X.M 8 3 4 0) 8 3 5 0)) sl ge mk b ep er) (skAl (memPut (memPut s.X.M 8 3 4 0) 8 3 5 0)) (fun i => Int.ofNat i) (-1) ≥ 0)) = true,
 skAl (memPut (memPut s.X.M 8 3 4 0) 8 3 5 0) ≤ skAl (memPut (memPut s.X.M 8 3 4 0) 8 3 5 0),
 skAl (memPut (memPut s.X.M 8 3 4 0) 8 3 5 0) ≤ 1000000,
 0 ≤ mget (memPut (memPut s.X.M 8 3 4 0) 8 3 5 0) (key 5 0 0),
 mget (memPut (memPut s.X.M 8 3 4 0) 8 3 5 0) (key 5 0 0) ≠ 0,
 (!decide (srch (ixfP (skAl (memPut s.X.M 8 3 4 0)) (skAl (memPut s.X.M 8 3 4 0)) (some (skAl (memPut s.X.M 8 3 4 0))) false (stF (memPut s.X.M 8 3 4 0)) sl ge mk b ep er) (skAl (memPut s.X.M 8 3 4 0)) (fun i => Int.ofNat i) (-1) ≥ 0)) = true,
 skAl (memPut s.X.M 8 3 4 0) ≤ skAl (memPut s.X.M 8 3 4 0),
 skAl (memPut s.X.M 8 3 4 0) ≤ 1000000,
 (0 : Int) ≤ (8 : Int),
 0 ≤ mget (memPut s.X.M 8 3 4 0) (key 5 0 0),
 mget (memPut s.X.M 8 3 4 0) (key 5 0 0) ≠ 0,
 (0 : Int) ≤ (8 : Int),
 (((!decide (srch (ixfP (skAl s.X.M) (skAl s.X.M) (some (skAl s.X.M)) false (stF s.X.M) sl ge mk b ep er) (skAl s.X.M) (fun i => Int.ofNat i) (-1) ≥ 0)) == false) == true) = false,
 skAl s.X.M ≤ skAl s.X.M,
 skAl s.X.M ≤ 1000000,
 (mget s.X.M (key 8 3 5) != IntKind.u64.wrap (s.high + 1)) = false,
 (mget s.X.M (key 8 3 4) != IntKind.u64.wrap (ft.tmod 1099511627776 + 1)) = false,
 decide (b ≤ s.high) = false,
 0 ≤ mget s.X.M (key 5 0 0),
 mget s.X.M (key 5 0 0) ≠ 0,
 hdLP n g sl ge mk b ep er (ft.tmod 1099511627776) (hd0 (ft.tmod 1099511627776)) s,
 (IntKind.u64.wrap (mget (memPut (memPut (memPut (fun x => none) 2 0 0 (ft.tmod 1099511627776)) 5 0 0 1) 8 3 0 1) (key 2 0 0) + 1) != IntKind.u64.wrap (ft.tmod 1099511627776 + 1)) = false,
 (0 : Int) ≤ (8 : Int),
 (0 : Int) ≤ (8 : Int),
 (0 : Int) ≤ (8 : Int),
 (0 : Int) ≤ (5 : Int),
 (0 : Int) ≤ (2 : Int),
 decide (Int.ofNat n > 100) = false], true) := by kernel_rfl
/-- Closed words of the memory ahead of the moves. -/
theorem hd0_ok {a : Int} (ha : 0 ≤ a ∧ a < 1099511627776) : HdOk a 0 (hd0 a) ∧ hdH a = a + 1 := by
  have e0 : mget (memPut (memPut (memPut (fun _ => none) 2 0 0 a) 5 0 0 1) 8 3 0 1) (key 2 0 0) = a := by
    rw [mget_put, if_neg (fun q => absurd q.2.1 (by decide)), mget_put, if_neg (fun q => absurd q.2.1 (by decide)), mget_put, if_pos ⟨rfl, rfl, rfl, rfl⟩]
  have eh : hdH a = a + 1 := by
    unfold hdH; rw [e0]; exact hd_u64 (by omega) (by omega)
  obtain ⟨r1, r2⟩ := hi_put (memPut (memPut (memPut (memPut (fun _ => none) 2 0 0 a) 5 0 0 1) 8 3 0 1) 8 3 4 (hdH a)) 5 (hdH a) (by omega)
  obtain ⟨l1, l2⟩ := hi_put (memPut (memPut (memPut (fun _ => none) 2 0 0 a) 5 0 0 1) 8 3 0 1) 4 (hdH a) (by omega)
  obtain ⟨o1, o2⟩ := hi_put (memPut (memPut (fun _ => none) 2 0 0 a) 5 0 0 1) 0 1 (by omega)
  refine ⟨⟨eh, Int.le_refl _, Int.le_refl _, by simp [hd0], ?_, ?_, ?_, ?_, fun i hi => ?_⟩, eh⟩
  · exact ((r1 2 0 0 (by omega)).trans (l1 2 0 0 (by omega))).trans e0
  · exact ((r1 8 3 4 (by omega)).trans l2).trans eh
  · exact r2.trans eh
  · refine ((r1 5 0 0 (by omega)).trans (l1 5 0 0 (by omega))).trans ((o1 5 0 0 (by omega)).trans ?_)
    rw [mget_put, if_pos ⟨rfl, rfl, rfl, rfl⟩]
  · have e : mget (hd0 a).X.M (key 8 (Int.ofNat i) 0) = mget (memPut (memPut (memPut (fun _ => none) 2 0 0 a) 5 0 0 1) 8 3 0 1) (key 8 (Int.ofNat i) 0) := (r1 8 (Int.ofNat i) 0 (by omega)).trans (l1 8 (Int.ofNat i) 0 (by omega))
    rw [e]
    by_cases c : i = 3
    · subst c
      have : mget (memPut (memPut (memPut (fun _ => none) 2 0 0 a) 5 0 0 1) 8 3 0 1) (key 8 (Int.ofNat 3) 0) = 1 := o2
      rw [this]; exact ⟨fun _ => rfl, fun _ => by decide⟩
    · rw [o1 8 (Int.ofNat i) 0 (by simp; omega), mget_put, if_neg (fun q => absurd q.2.1 (by decide)), mget_put, if_neg (fun q => absurd q.2.1 (by decide))]
      exact ⟨fun h => absurd rfl h, fun h => absurd h c⟩
theorem hd_runs (hft : 0 ≤ ft ∧ ft < 18446744073709551616) (hg : ∀ i, i < n → 0 ≤ avInt (g i 0)) (hb : 0 ≤ b ∧ b < 18446744073709551616) (her : 0 ≤ er ∧ er < 18446744073709551616) : Runs (hdRun ft n g sl ge mk b ep er) := by
  cases h1 : (decide (Int.ofNat n > 100)) with
  | true => exact ⟨_, _, _, hgz_1 ft n g sl ge mk b ep er, .inl rfl, (ob_cons h1 ob_nil)⟩
  | false =>
    have hn : n ≤ 100 := by have := of_decide_eq_false h1; simp at this; omega
    have ha : 0 ≤ ft.tmod 1099511627776 ∧ ft.tmod 1099511627776 < 1099511627776 := ⟨Int.tmod_nonneg _ hft.1, Int.tmod_lt_of_pos _ (by decide)⟩
    have hz := hd0_ok ha
    have e0 : (IntKind.u64.wrap (mget (memPut (memPut (memPut (fun x => none) 2 0 0 (ft.tmod 1099511627776)) 5 0 0 1) 8 3 0 1) (key 2 0 0) + 1) != IntKind.u64.wrap (ft.tmod 1099511627776 + 1)) = false := by
      have e1 : IntKind.u64.wrap (mget (memPut (memPut (memPut (fun x => none) 2 0 0 (ft.tmod 1099511627776)) 5 0 0 1) 8 3 0 1) (key 2 0 0) + 1) = ft.tmod 1099511627776 + 1 := hz.2
      rw [e1, hd_u64 (x := ft.tmod 1099511627776 + 1) (by omega) (by omega)]; simp
    have hall := hd_all ha hn hg hz.1
    have hlp := hd_lp n g sl ge mk b ep er (ft.tmod 1099511627776) (hd0 (ft.tmod 1099511627776)) hn (fun k hk => (hd_step ha (by omega) (by rw [Nat.zero_add]; exact hg k hk) (hall k (by omega))).2)
    have hok := hall n (Nat.le_refl _)
    generalize hdN g (hd0 (ft.tmod 1099511627776)) n = s at *
    have hhi : s.high < 18446744073709551615 := by have := hok.hn; have := hok.up; simp at this; omega
    have hlo := hok.lo
    obtain ⟨f1, f2⟩ := may_F (sl := sl) (ge := ge) (mk := mk) (b := b) (ep := ep) (er := er) hok.b hok.o
    obtain ⟨p1, p2⟩ := hi_put s.X.M 4 0 (by omega)
    obtain ⟨q1, q2⟩ := hi_put (memPut s.X.M 8 3 4 0) 5 0 (by omega)
    have b2 : mget (memPut s.X.M 8 3 4 0) (key 5 0 0) = 1 := (p1 5 0 0 (by omega)).trans hok.b
    have b3 : mget (memPut (memPut s.X.M 8 3 4 0) 8 3 5 0) (key 5 0 0) = 1 := (q1 5 0 0 (by omega)).trans b2
    have o2 : ∀ i : Nat, i < 4 → (mget (memPut s.X.M 8 3 4 0) (key 8 (Int.ofNat i) 0) ≠ 0 ↔ i = 3) := fun i hi => by rw [p1 8 (Int.ofNat i) 0 (by omega)]; exact hok.o i hi
    have o3 : ∀ i : Nat, i < 4 → (mget (memPut (memPut s.X.M 8 3 4 0) 8 3 5 0) (key 8 (Int.ofNat i) 0) ≠ 0 ↔ i = 3) := fun i hi => by rw [q1 8 (Int.ofNat i) 0 (by omega)]; exact o2 i hi
    obtain ⟨g1, g2⟩ := may_F (sl := sl) (ge := ge) (mk := mk) (b := b) (ep := ep) (er := er) b2 o2
    obtain ⟨k1, k2⟩ := may_F (sl := sl) (ge := ge) (mk := mk) (b := b) (ep := ep) (er := er) b3 o3
    rw [p2] at g2
    rw [(q1 8 3 4 (by omega)).trans p2] at k2
    rw [hok.l, hok.h, show ft.tmod 1099511627776 + 1 - 1 = ft.tmod 1099511627776 by omega, show s.high + 1 - 1 = s.high by omega, hd_u64 (x := ft.tmod 1099511627776) (by omega) (by omega), hd_u64 (x := s.high) (by omega) (by omega), decide_eq_false (show ¬ ft.tmod 1099511627776 + 1 = 0 by omega), decide_eq_false (show ¬ s.high + 1 = 0 by omega)] at f2
    have w2 : (!decide (srch (ixfP (skAl (memPut s.X.M 8 3 4 0)) (skAl (memPut s.X.M 8 3 4 0)) (some (skAl (memPut s.X.M 8 3 4 0))) false (stF (memPut s.X.M 8 3 4 0)) sl ge mk b ep er) (skAl (memPut s.X.M 8 3 4 0)) (fun i => Int.ofNat i) (-1) ≥ 0)) = true := by rw [g2]; rfl
    have w3 : (!decide (srch (ixfP (skAl (memPut (memPut s.X.M 8 3 4 0) 8 3 5 0)) (skAl (memPut (memPut s.X.M 8 3 4 0) 8 3 5 0)) (some (skAl (memPut (memPut s.X.M 8 3 4 0) 8 3 5 0))) false (stF (memPut (memPut s.X.M 8 3 4 0) 8 3 5 0)) sl ge mk b ep er) (skAl (memPut (memPut s.X.M 8 3 4 0) 8 3 5 0)) (fun i => Int.ofNat i) (-1) ≥ 0)) = true := by rw [k2]; rfl
    have m1 : skAl s.X.M ≤ 1000000 := by omega
    have m2 : skAl (memPut s.X.M 8 3 4 0) ≤ 1000000 := by omega
    have m3 : skAl (memPut (memPut s.X.M 8 3 4 0) 8 3 5 0) ≤ 1000000 := by omega
    have z1 : 0 ≤ mget s.X.M (key 5 0 0) := by rw [hok.b]; decide
    have z2 : 0 ≤ mget (memPut s.X.M 8 3 4 0) (key 5 0 0) := by rw [b2]; decide
    have z3 : 0 ≤ mget (memPut (memPut s.X.M 8 3 4 0) 8 3 5 0) (key 5 0 0) := by rw [b3]; decide
    have n1 : mget s.X.M (key 5 0 0) ≠ 0 := by rw [hok.b]; decide
    have n2 : mget (memPut s.X.M 8 3 4 0) (key 5 0 0) ≠ 0 := by rw [b2]; decide
    have n3 : mget (memPut (memPut s.X.M 8 3 4 0) 8 3 5 0) (key 5 0 0) ≠ 0 := by rw [b3]; decide
    have y1 : (mget s.X.M (key 8 3 5) != IntKind.u64.wrap (s.high + 1)) = false := by rw [hok.h, hd_u64 (by omega) (by omega)]; simp
    have y2 : (mget s.X.M (key 8 3 4) != IntKind.u64.wrap (ft.tmod 1099511627776 + 1)) = false := by rw [hok.l, hd_u64 (by omega) (by omega)]; simp
    have e8 : (0 : Int) ≤ 8 := by decide
    have e5 : (0 : Int) ≤ 5 := by decide
    have e2 : (0 : Int) ≤ 2 := by decide
    cases hc : decide (b ≤ s.high) with
    | true =>
      have x1 : (((!decide (srch (ixfP (skAl s.X.M) (skAl s.X.M) (some (skAl s.X.M)) false (stF s.X.M) sl ge mk b ep er) (skAl s.X.M) (fun i => Int.ofNat i) (-1) ≥ 0)) == decide (er ≥ ft.tmod 1099511627776)) == true) = false := by
        rw [f2, hc]
        rw [show decide (er ≥ ft.tmod 1099511627776) = decide (ft.tmod 1099511627776 ≤ er) from rfl]
        cases decide (ft.tmod 1099511627776 ≤ er) <;> rfl
      exact ⟨_, _, _, hga_1 ft n g sl ge mk b ep er s, .inl rfl, (cj ⟨w3, Nat.le_refl _, m3, z3, n3, w2, Nat.le_refl _, m2, e8, z2, n2, e8, x1, Nat.le_refl _, m1, y1, y2, hc, z1, n1, hlp, e0, e8, e8, e8, e5, e2, h1, trivial⟩)⟩
    | false =>
      have x1 : (((!decide (srch (ixfP (skAl s.X.M) (skAl s.X.M) (some (skAl s.X.M)) false (stF s.X.M) sl ge mk b ep er) (skAl s.X.M) (fun i => Int.ofNat i) (-1) ≥ 0)) == false) == true) = false := by
        rw [f2, hc]
        cases decide (ft.tmod 1099511627776 ≤ er) <;> rfl
      exact ⟨_, _, _, hgb_1 ft n g sl ge mk b ep er s, .inl rfl, (cj ⟨w3, Nat.le_refl _, m3, z3, n3, w2, Nat.le_refl _, m2, e8, z2, n2, e8, x1, Nat.le_refl _, m1, y1, y2, hc, z1, n1, hlp, e0, e8, e8, e8, e5, e2, h1, trivial⟩)⟩

end
theorem hown : ownKnob Try.prog.godebug = none := by kernel_rfl
theorem hlaidOut : laidOutB Try.prog = true := by kernel_rfl
theorem k5 : flatK Try.prog 4 5 = some [.int .u8] := by kernel_rfl
theorem k34 : flatK Try.prog 4 34 = some [.int .i64, .int .u32, .bool, .int .u64, .int .u64, .int .u64] := by kernel_rfl
set_option maxRecDepth 100000 in
theorem erasHold_runs : LawRuns Try.prog 9 [32, 48, 34] := by
  intro H enc W base args ds p hval hA
  obtain ⟨v0, v1, v2, d0, d1, d2, p0, p1, p2, hargs, rfl, rfl, h0, h1, h2⟩ := trodAll_three (args := args.toArray) hA
  obtain rfl : args = [v0, v1, v2] := by simpa using congrArg Array.toList hargs
  obtain ⟨ft, rfl, rft⟩ := okWide_num Try.underlying32 (hval 0 32 v0 rfl rfl)
  obtain ⟨fuel1, h1⟩ := h1
  obtain ⟨c1, l1, q1, rfl⟩ := okWide_slice Try.underlying48 (hval 1 48 v1 rfl rfl)
  obtain ⟨L1, len1, num1, bit1, hw1, hs1, hl1, hm1, hn1, hob1, hwf1⟩ := open_rows Try.underlying48 k5 (by kernel_rfl) (by decide) (okWide_spot Try.underlying48 (hval 1 48 _ rfl rfl)) (by simpa [Value.cells] using h1)
  have hs1 : L1.slice 1 0 len1 none = some (.slice c1 l1 q1) := hs1
  obtain ⟨sl, rsl, ge, rge, mk, b, rb, ep, rep, er, rer, rfl⟩ := open_flat Try.underlying34 k34 (hval 2 34 v2 rfl rfl) h2
  obtain ⟨h, x, ob, hr, hx, hob⟩ := hd_runs ft len1 (rowAV [.int .u8] num1 bit1) sl ge mk b ep er (u64_range rft) (fun i hi => (u8_range (hwf1 i hi 0 .u8 rfl)).1) (u64_range rb) (u64_range rer)
  have e1 : inpT [(1, L1)] [] 1 = some L1 := inpT_of rfl
  exact run_lawG (W := W) (ρ := inpT [(1, L1)] []) Ehd_ok hr hx hob (heapRepT (heap := [(1, .arr 1 [.int .u8] true len1 (rowAV [.int .u8] num1 bit1))]) (ls := [(1, L1)]) (tabs := []) (nxt := 2) rfl (by decide) rfl (fun g vs h => by cases h) (rep_cons rfl rfl hob1 rep_nil)) (xs := [.int .u64 ft, .slice c1 l1 q1, .agg #[.int .i64 sl, .int .u32 ge, .bool mk, .int .u64 b, .int .u64 ep, .int .u64 er]])
    (by simp [denL, den, e1, hs1]) (inpT_fresh (nxt := 2) rfl (Nat.le_refl _)) (inpT_glob (nxt := 2) rfl (by decide))

set_option maxRecDepth 100000 in
theorem erasHold_lifted (os : Os) (started : os.Started) (H : Type) (enc : TypeId × Value → H) :
    ReturnsInHanded {} Try.checked os 9 .any (Rows.erasHoldSpec.pre6 enc Try.prog Try.f9 Rows.erasHoldRow.domain false) (Rows.erasHoldSpec.post enc Try.prog Try.f9 false true false false) := by
  refine returnsInHanded_of_change (C := Try.checked) hown started (by kernel_rfl) Try.func9
    (ChangeSpec.witness6 (enc := enc) (C := Try.checked) false ⟨#[], #[.int .u64 0, .slice none 0 0, .agg #[.int .i64 0, .int .u32 0, .bool false, .int .u64 0, .int .u64 0, .int .u64 0]], []⟩ 8 (by kernel_rfl) (by kernel_rfl) (by kernel_rfl) (by kernel_rfl)) ?_
  intro W base args ds gs before hval0 hW hcnd _
  exact law_contract Try.params9 erasHold_runs hlaidOut (of_decide_eq_true (by kernel_rfl)) (by kernel_rfl) Try.underlying4 rfl
    (fun ds hl => by match ds, hl with | [d0, d1, d2], _ => exact ⟨rfl, rfl, rfl⟩) W base args ds gs before hval0 hW

theorem erasHold_holds : Rows.ErasHoldSaid :=
  OpenClaim.holds_of_wide 9 Try.f9 rfl rfl rfl rfl rfl rfl rfl ⟨rfl, rfl, rfl, rfl, rfl⟩ rfl rfl rfl rfl rfl (by kernel_rfl) Try.func9 (by kernel_rfl)
    (of_decide_eq_true (by kernel_rfl)) (by unfold Func.isWrapper; first | (rw [if_pos (by decide +kernel)]; kernel_rfl) | (rw [if_neg (by decide +kernel)]; exact ⟨rfl, rfl⟩))
    (fun os started H enc _ => erasHold_lifted os started H enc)

#print axioms erasHold_holds
end Go.Proofs.Ytmlfmmnnbdlabaa
