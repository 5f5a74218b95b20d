/-
  For all inputs, BarriersAll returns true; its arguments read as before. No condition.
-/
import Derived.Test.YtmlfmmnnbdlabaaDoorQL22
import Derived.Test.YtmlfmmnnbdlabaaDoorEvDoor
import Derived.Test.YtmlfmmnnbdlabaaDoorTie
import Derived.Test.YtmlfmmnnbdlabaaDoorCards
import Derived.LaidMore
import Derived.ChangeMaps5
import Derived.OpenShut
import Derived.SevenTiedAt
set_option linter.unusedSimpArgs false
set_option linter.unusedVariables false
namespace Go.Proofs.YtmlfmmnnbdlabaaDoor
open Go.Ev Go.ChangeShapes Go.WideShapes Go.ChangeAt Go.RowKit
set_option maxRecDepth 100000
section
variable (n : Nat) (g : Nat → Nat → AV) (b z0 z1 : Int)
attribute [local irreducible] rnK rnN
theorem bxa_1 : (callF EBa 6000 4 [AV.ss 10 1 0 n none, AV.sym IntKind.u8 b, AV.agg [AV.sym IntKind.u8 z0, AV.sym IntKind.u8 z1]] ⟨(tabsH [(0, tab)] ++ [(1, AO.arr 10 tSh true n g)]), 2, gnm 0, [Hint.b true], [], [], false⟩).map (fun x => (x.1, x.2.ob, noneIn (tabsH [(0, tab)] ++ [(1, AO.arr 10 tSh true n g)]) x.2.wr)) =
 some (AV.bool true, [TabIs tab (tabF tab),
 decide (Int.ofNat n > 16) = true], true) := by kernel_rfl
theorem bxb_1 (fi : Int) : (callF EBa 6000 4 [AV.ss 10 1 0 n none, AV.sym IntKind.u8 b, AV.agg [AV.sym IntKind.u8 z0, AV.sym IntKind.u8 z1]] ⟨(tabsH [(0, tab)] ++ [(1, AO.arr 10 tSh true n g)]), 2, gnm 0, [Hint.b false, Hint.lp [0, 7, 8, 9, 10, 11, 12] (Ex.exit 0) (fsX n g z0 z1 (IntKind.u64.wrap z0) (IntKind.i64.wrap (1 + IntKind.i64.wrap (z1.tmod 20))) (IntKind.i64.wrap (4 * if 4 < IntKind.i64.wrap b then 4 else IntKind.i64.wrap b)) (bxX n g b) fi).tmps (fsX n g z0 z1 (IntKind.u64.wrap z0) (IntKind.i64.wrap (1 + IntKind.i64.wrap (z1.tmod 20))) (IntKind.i64.wrap (4 * if 4 < IntKind.i64.wrap b then 4 else IntKind.i64.wrap b)) (bxX n g b) fi).hp.heap 5 [], Hint.b true, Hint.b true, Hint.b true, Hint.b true, Hint.b true, Hint.b true], [], [], false⟩).map (fun x => (x.1, x.2.ob, noneIn (tabsH [(0, tab)] ++ [(1, AO.arr 10 tSh true n g)]) x.2.wr)) =
 some (AV.bool true, [TabIs tab (tabF tab),
 decide (Int.ofNat (wlF (bxX n g b).M).length ≤ (bxX n g b).st) = true,
 FinM (bxX n g b).M 1000000,
 ((rnN (IntKind.u64.wrap z0) (if 1 > IntKind.i64.wrap (1 + IntKind.i64.wrap (z1.tmod 20)) then 1 else IntKind.i64.wrap (1 + IntKind.i64.wrap (z1.tmod 20))) (rnAl (bxX n g b).M) (bxX n g b) (rnK (IntKind.u64.wrap z0) (if 1 > IntKind.i64.wrap (1 + IntKind.i64.wrap (z1.tmod 20)) then 1 else IntKind.i64.wrap (1 + IntKind.i64.wrap (z1.tmod 20))) (bxX n g b))).S.st == IntKind.i64.wrap ((bxX n g b).st + Int.ofNat (rnK (IntKind.u64.wrap z0) (if 1 > IntKind.i64.wrap (1 + IntKind.i64.wrap (z1.tmod 20)) then 1 else IntKind.i64.wrap (1 + IntKind.i64.wrap (z1.tmod 20))) (bxX n g b) + 1))) = true,
 ((rnN (IntKind.u64.wrap z0) (if 1 > IntKind.i64.wrap (1 + IntKind.i64.wrap (z1.tmod 20)) then 1 else IntKind.i64.wrap (1 + IntKind.i64.wrap (z1.tmod 20))) (rnAl (bxX n g b).M) (bxX n g b) (rnK (IntKind.u64.wrap z0) (if 1 > IntKind.i64.wrap (1 + IntKind.i64.wrap (z1.tmod 20)) then 1 else IntKind.i64.wrap (1 + IntKind.i64.wrap (z1.tmod 20))) (bxX n g b))).x.wt == fi) = true,
 ((rnN (IntKind.u64.wrap z0) (if 1 > IntKind.i64.wrap (1 + IntKind.i64.wrap (z1.tmod 20)) then 1 else IntKind.i64.wrap (1 + IntKind.i64.wrap (z1.tmod 20))) (rnAl (bxX n g b).M) (bxX n g b) (rnK (IntKind.u64.wrap z0) (if 1 > IntKind.i64.wrap (1 + IntKind.i64.wrap (z1.tmod 20)) then 1 else IntKind.i64.wrap (1 + IntKind.i64.wrap (z1.tmod 20))) (bxX n g b))).x.en == 9) = true,
 decide (Int.ofNat (rnK (IntKind.u64.wrap z0) (if 1 > IntKind.i64.wrap (1 + IntKind.i64.wrap (z1.tmod 20)) then 1 else IntKind.i64.wrap (1 + IntKind.i64.wrap (z1.tmod 20))) (bxX n g b) + 1) ≤ IntKind.i64.wrap (1 + IntKind.i64.wrap (4 * IntKind.i64.wrap (IntKind.i64.wrap (4 * if 4 < IntKind.i64.wrap b then 4 else IntKind.i64.wrap b) + IntKind.i64.wrap (1 + IntKind.i64.wrap (z1.tmod 20)))))) = true,
 decide (fi ≥ 0) = true,
 true = true,
 true = true,
 (0 : Int) = 0,
 (0 : Int) = 0,
 (-1 : Int) = -1,
 (-1 : Int) = -1,
 (0 : Int) = 0,
 tabF tab = tabF tab,
 0 ≤ mget (bxX n g b).M (key 5 0 0),
 (1 ≤ if 1 > IntKind.i64.wrap (1 + IntKind.i64.wrap (z1.tmod 20)) then 1 else IntKind.i64.wrap (1 + IntKind.i64.wrap (z1.tmod 20))) ∧ (if 1 > IntKind.i64.wrap (1 + IntKind.i64.wrap (z1.tmod 20)) then 1 else IntKind.i64.wrap (1 + IntKind.i64.wrap (z1.tmod 20))) ≤ 60,
 fsLP n g z0 z1 (IntKind.u64.wrap z0) (IntKind.i64.wrap (1 + IntKind.i64.wrap (z1.tmod 20))) (IntKind.i64.wrap (4 * if 4 < IntKind.i64.wrap b then 4 else IntKind.i64.wrap b)) (bxX n g b) fi,
 n = n,
 n ≤ 16,
 decide (Int.ofNat n > 16) = false], true) := by kernel_rfl
theorem bxc_1 (fi : Int) : (callF EBa 6000 4 [AV.ss 10 1 0 n none, AV.sym IntKind.u8 b, AV.agg [AV.sym IntKind.u8 z0, AV.sym IntKind.u8 z1]] ⟨(tabsH [(0, tab)] ++ [(1, AO.arr 10 tSh true n g)]), 2, gnm 0, [Hint.b false, Hint.lp [0, 7, 8, 9, 10, 11, 12] (Ex.exit 0) (fsX n g z0 z1 (IntKind.u64.wrap z0) (IntKind.i64.wrap (1 + IntKind.i64.wrap (z1.tmod 20))) (IntKind.i64.wrap (4 * if 4 < IntKind.i64.wrap b then 4 else IntKind.i64.wrap b)) (bxX n g b) fi).tmps (fsX n g z0 z1 (IntKind.u64.wrap z0) (IntKind.i64.wrap (1 + IntKind.i64.wrap (z1.tmod 20))) (IntKind.i64.wrap (4 * if 4 < IntKind.i64.wrap b then 4 else IntKind.i64.wrap b)) (bxX n g b) fi).hp.heap 5 [], Hint.b false, Hint.b true, Hint.b true, Hint.b true, Hint.b true, Hint.b true], [], [], false⟩).map (fun x => (x.1, x.2.ob, noneIn (tabsH [(0, tab)] ++ [(1, AO.arr 10 tSh true n g)]) x.2.wr)) =
 some (AV.bool true, [TabIs tab (tabF tab),
 decide (Int.ofNat (wlF (bxX n g b).M).length ≤ (bxX n g b).st) = true,
 FinM (bxX n g b).M 1000000,
 ((rnN (IntKind.u64.wrap z0) (if 1 > IntKind.i64.wrap (1 + IntKind.i64.wrap (z1.tmod 20)) then 1 else IntKind.i64.wrap (1 + IntKind.i64.wrap (z1.tmod 20))) (rnAl (bxX n g b).M) (bxX n g b) (rnK (IntKind.u64.wrap z0) (if 1 > IntKind.i64.wrap (1 + IntKind.i64.wrap (z1.tmod 20)) then 1 else IntKind.i64.wrap (1 + IntKind.i64.wrap (z1.tmod 20))) (bxX n g b))).S.st == IntKind.i64.wrap ((bxX n g b).st + Int.ofNat (rnK (IntKind.u64.wrap z0) (if 1 > IntKind.i64.wrap (1 + IntKind.i64.wrap (z1.tmod 20)) then 1 else IntKind.i64.wrap (1 + IntKind.i64.wrap (z1.tmod 20))) (bxX n g b) + 1))) = true,
 ((rnN (IntKind.u64.wrap z0) (if 1 > IntKind.i64.wrap (1 + IntKind.i64.wrap (z1.tmod 20)) then 1 else IntKind.i64.wrap (1 + IntKind.i64.wrap (z1.tmod 20))) (rnAl (bxX n g b).M) (bxX n g b) (rnK (IntKind.u64.wrap z0) (if 1 > IntKind.i64.wrap (1 + IntKind.i64.wrap (z1.tmod 20)) then 1 else IntKind.i64.wrap (1 + IntKind.i64.wrap (z1.tmod 20))) (bxX n g b))).x.wt == fi) = true,
 ((rnN (IntKind.u64.wrap z0) (if 1 > IntKind.i64.wrap (1 + IntKind.i64.wrap (z1.tmod 20)) then 1 else IntKind.i64.wrap (1 + IntKind.i64.wrap (z1.tmod 20))) (rnAl (bxX n g b).M) (bxX n g b) (rnK (IntKind.u64.wrap z0) (if 1 > IntKind.i64.wrap (1 + IntKind.i64.wrap (z1.tmod 20)) then 1 else IntKind.i64.wrap (1 + IntKind.i64.wrap (z1.tmod 20))) (bxX n g b))).x.en == 0) = true,
 decide (Int.ofNat (rnK (IntKind.u64.wrap z0) (if 1 > IntKind.i64.wrap (1 + IntKind.i64.wrap (z1.tmod 20)) then 1 else IntKind.i64.wrap (1 + IntKind.i64.wrap (z1.tmod 20))) (bxX n g b) + 1) ≤ IntKind.i64.wrap (1 + IntKind.i64.wrap (4 * IntKind.i64.wrap (IntKind.i64.wrap (4 * if 4 < IntKind.i64.wrap b then 4 else IntKind.i64.wrap b) + IntKind.i64.wrap (1 + IntKind.i64.wrap (z1.tmod 20)))))) = true,
 decide (fi ≥ 0) = false,
 true = true,
 true = true,
 (0 : Int) = 0,
 (0 : Int) = 0,
 (-1 : Int) = -1,
 (-1 : Int) = -1,
 (0 : Int) = 0,
 tabF tab = tabF tab,
 0 ≤ mget (bxX n g b).M (key 5 0 0),
 (1 ≤ if 1 > IntKind.i64.wrap (1 + IntKind.i64.wrap (z1.tmod 20)) then 1 else IntKind.i64.wrap (1 + IntKind.i64.wrap (z1.tmod 20))) ∧ (if 1 > IntKind.i64.wrap (1 + IntKind.i64.wrap (z1.tmod 20)) then 1 else IntKind.i64.wrap (1 + IntKind.i64.wrap (z1.tmod 20))) ≤ 60,
 fsLP n g z0 z1 (IntKind.u64.wrap z0) (IntKind.i64.wrap (1 + IntKind.i64.wrap (z1.tmod 20))) (IntKind.i64.wrap (4 * if 4 < IntKind.i64.wrap b then 4 else IntKind.i64.wrap b)) (bxX n g b) fi,
 n = n,
 n ≤ 16,
 decide (Int.ofNat n > 16) = false], true) := by kernel_rfl
theorem bx_runs (hb : 0 ≤ b ∧ b < 256) (h0 : 0 ≤ z0 ∧ z0 < 256) (h1 : 0 ≤ z1 ∧ z1 < 256) : Runs (bxRun n g b z0 z1) := by
  have ht := tabIs_self tab
  cases hd : decide (Int.ofNat n > 16) with
  | true => exact ⟨_, _, _, bxa_1 n g b z0 z1, .inl rfl, (cj ⟨ht, hd, trivial⟩)⟩
  | false =>
    have hn : n ≤ 16 := by have := of_decide_eq_false hd; simp at this; omega
    have q0 := Int.tmod_nonneg 20 h1.1
    have q1 := Int.tmod_lt_of_pos z1 (b := 20) (by decide)
    have eLK : (IntKind.i64.wrap (1 + IntKind.i64.wrap (z1.tmod 20))) = 1 + z1.tmod 20 := by
      rw [i64w (x := z1.tmod 20) (by omega) (by omega), i64w (by omega) (by omega)]
    have eL2 : (if 1 > (IntKind.i64.wrap (1 + IntKind.i64.wrap (z1.tmod 20))) then 1 else (IntKind.i64.wrap (1 + IntKind.i64.wrap (z1.tmod 20)))) = 1 + z1.tmod 20 := by rw [eLK, if_neg (by omega)]
    have hL2 : 1 ≤ (if 1 > (IntKind.i64.wrap (1 + IntKind.i64.wrap (z1.tmod 20))) then 1 else (IntKind.i64.wrap (1 + IntKind.i64.wrap (z1.tmod 20)))) ∧ (if 1 > (IntKind.i64.wrap (1 + IntKind.i64.wrap (z1.tmod 20))) then 1 else (IntKind.i64.wrap (1 + IntKind.i64.wrap (z1.tmod 20)))) ≤ 60 := by rw [eL2]; omega
    have hblk := bx_blk n g b hb
    have hw0 : 0 ≤ mget (bxX n g b).M (key 5 0 0) := by rw [hblk]; exact hb.1
    have eAL : (IntKind.i64.wrap (4 * if 4 < IntKind.i64.wrap b then 4 else IntKind.i64.wrap b)) = rnAl (bxX n g b).M := by
      unfold rnAl
      rw [hblk, i64w (x := b) (by omega) (by omega)]
      exact i64w (by split <;> omega) (by split <;> omega)
    have hal : 0 ≤ rnAl (bxX n g b).M ∧ rnAl (bxX n g b).M ≤ 16 := by unfold rnAl; rw [hblk]; split <;> omega
    obtain ⟨hK, hok, _, _, hoff⟩ := rn_ok (X := bxX n g b) (nb := (IntKind.u64.wrap z0)) (lk := (if 1 > (IntKind.i64.wrap (1 + IntKind.i64.wrap (z1.tmod 20))) then 1 else (IntKind.i64.wrap (1 + IntKind.i64.wrap (z1.tmod 20))))) hw0 hL2
    obtain ⟨AL, hAL⟩ : ∃ AL : Nat, Int.ofNat AL = rnAl (bxX n g b).M := ⟨(rnAl (bxX n g b).M).toNat, by simp; omega⟩
    obtain ⟨N, hN⟩ : ∃ N : Nat, N = if n ≤ AL then n else AL := ⟨_, rfl⟩
    have hN1 : N ≤ n := by rw [hN]; split <;> omega
    have hN2 : N ≤ AL := by rw [hN]; split <;> omega
    have hN3 : N = n ∨ N = AL := by rw [hN]; split <;> simp
    obtain ⟨K, hKd⟩ : ∃ K, K = fnd (blkB g (IntKind.u64.wrap z0)) N := ⟨_, rfl⟩
    have hK1 : K ≤ N := by rw [hKd]; exact fnd_le _ _
    have hKb : K < N → blkB g (IntKind.u64.wrap z0) K = true := fun h => by rw [hKd] at h ⊢; exact (fnd_spec h).1
    have hKa : ∀ i, i < K → blkB g (IntKind.u64.wrap z0) i = false := fun i hi => by
      by_cases c : fnd (blkB g (IntKind.u64.wrap z0)) N < N
      · exact (fnd_spec c).2 i (by rw [← hKd]; exact hi)
      · exact fnd_no c i (by omega)
    have hlp := fs_lp n g z0 z1 (IntKind.u64.wrap z0) (IntKind.i64.wrap (1 + IntKind.i64.wrap (z1.tmod 20))) (IntKind.i64.wrap (4 * if 4 < IntKind.i64.wrap b then 4 else IntKind.i64.wrap b)) (bxX n g b) K N hn (by rw [eAL]; exact hal) hN1 (by rw [eAL, ← hAL]; simp; omega) (hN3.imp id (fun e => by rw [eAL, ← hAL, e])) hK1 hKb hKa
    have hfin : FinM (bxX n g b).M 1000000 := (bx_fin n g b).mono (by omega)
    have hwl : decide (Int.ofNat (wlF (bxX n g b).M).length ≤ (bxX n g b).st) = true := by
      have := wlF_len (bx_fin n g b)
      rw [bx_st n g b hn]
      exact decide_eq_true (by simp; omega)
    have hcnt : decide (Int.ofNat (rnK (IntKind.u64.wrap z0) (if 1 > (IntKind.i64.wrap (1 + IntKind.i64.wrap (z1.tmod 20))) then 1 else (IntKind.i64.wrap (1 + IntKind.i64.wrap (z1.tmod 20)))) (bxX n g b) + 1) ≤ IntKind.i64.wrap (1 + IntKind.i64.wrap (4 * IntKind.i64.wrap ((IntKind.i64.wrap (4 * if 4 < IntKind.i64.wrap b then 4 else IntKind.i64.wrap b)) + (IntKind.i64.wrap (1 + IntKind.i64.wrap (z1.tmod 20))))))) = true := by
      have := hoff.cnt
      rw [eL2] at this
      rw [eL2, eAL, eLK, i64w (x := rnAl (bxX n g b).M + (1 + z1.tmod 20)) (by omega) (by omega), i64w (x := 4 * (rnAl (bxX n g b).M + (1 + z1.tmod 20))) (by omega) (by omega), i64w (by omega) (by omega)]
      refine decide_eq_true ?_
      simp at this ⊢
      omega
    have hst := beq_iff_eq.2 hoff.st
    have wait := bx_wait n g b hn (IntKind.u64.wrap z0)
    rcases hoff.e with ⟨e1, e2, e3⟩ | ⟨e1, e2, e3, e4, e5⟩
    · have hKN : ¬ K < N := fun c => by
        have hbb := hKb c
        exact e3 (Int.ofNat K) (by simp) (by rw [← hAL]; simp; omega) ((wait K).2 ⟨by omega, hbb⟩)
      have hfi : fsF K N = -1 := if_neg hKN
      have hf : decide (fsF K N ≥ 0) = false := by rw [hfi]; rfl
      have hwt := beq_iff_eq.2 (e2.trans hfi.symm)
      have hen := beq_iff_eq.2 e1
      exact ⟨_, _, _, bxc_1 n g b z0 z1 (fsF K N), .inl rfl, (cj ⟨ht, hwl, hfin, hst, hwt, hen, hcnt, hf, rfl, rfl, rfl, rfl, rfl, rfl, rfl, rfl, hw0, hL2, hlp, rfl, hn, hd, trivial⟩)⟩
    · obtain ⟨t, ht2⟩ : ∃ t : Nat, (rnN (IntKind.u64.wrap z0) (if 1 > (IntKind.i64.wrap (1 + IntKind.i64.wrap (z1.tmod 20))) then 1 else (IntKind.i64.wrap (1 + IntKind.i64.wrap (z1.tmod 20)))) (rnAl (bxX n g b).M) (bxX n g b) (rnK (IntKind.u64.wrap z0) (if 1 > (IntKind.i64.wrap (1 + IntKind.i64.wrap (z1.tmod 20))) then 1 else (IntKind.i64.wrap (1 + IntKind.i64.wrap (z1.tmod 20)))) (bxX n g b))).x.wt = Int.ofNat t := ⟨((rnN (IntKind.u64.wrap z0) (if 1 > (IntKind.i64.wrap (1 + IntKind.i64.wrap (z1.tmod 20))) then 1 else (IntKind.i64.wrap (1 + IntKind.i64.wrap (z1.tmod 20)))) (rnAl (bxX n g b).M) (bxX n g b) (rnK (IntKind.u64.wrap z0) (if 1 > (IntKind.i64.wrap (1 + IntKind.i64.wrap (z1.tmod 20))) then 1 else (IntKind.i64.wrap (1 + IntKind.i64.wrap (z1.tmod 20)))) (bxX n g b))).x.wt).toNat, (Int.toNat_of_nonneg e2).symm⟩
      rw [ht2] at e3 e4 e5
      obtain ⟨t1, t2⟩ := (wait t).1 e4
      have t3 : t < N := by
        have : t < AL := by rw [← hAL] at e3; simpa using e3
        rcases hN3 with e | e <;> omega
      have tK : K = t := by
        rw [hKd]
        refine fnd_eq t3 t2 (fun j hj => ?_)
        cases hbj : blkB g (IntKind.u64.wrap z0) j with
        | false => rfl
        | true => exact absurd ((wait j).2 ⟨by omega, hbj⟩) (e5 (Int.ofNat j) (by simp) (by simpa using hj))
      have hfi : fsF K N = Int.ofNat t := by rw [tK]; exact if_pos t3
      have hf : decide (fsF K N ≥ 0) = true := by rw [hfi]; exact decide_eq_true (by simp)
      have hwt := beq_iff_eq.2 (ht2.trans hfi.symm)
      have hen := beq_iff_eq.2 e1
      exact ⟨_, _, _, bxb_1 n g b z0 z1 (fsF K N), .inl rfl, (cj ⟨ht, hwl, hfin, hst, hwt, hen, hcnt, hf, rfl, rfl, rfl, rfl, rfl, rfl, rfl, rfl, hw0, hL2, hlp, rfl, hn, hd, trivial⟩)⟩

end
theorem hown : ownKnob Tryd.prog.godebug = none := by kernel_rfl
theorem hlaidOut : laidOutB Tryd.prog = true := by kernel_rfl
theorem k56 : flatK Tryd.prog 4 56 = some tSh := by kernel_rfl
theorem k51 : flatK Tryd.prog 4 51 = some [.int .u8, .int .u8] := by kernel_rfl
theorem barriersAll_tabs : TabsOk Tryd.prog [("ragpicker/barriers.fields", Rows.laid_ragpicker_barriers_fields)] [(0, tab)] := tabsOkB_ok (by kernel_rfl)
set_option maxRecDepth 100000 in
theorem barriersAll_runs : LawRunsT Tryd.prog 4 [50, 5, 51] [(0, tab)] := by
  intro H enc W base args ds p hval hA htab
  obtain ⟨v0, v1, v2, d0, d1, d2, p0, p1, p2, hargs, rfl, rfl, h0, h1, h2⟩ := trodAll_three (args := args.toArray) hA
  obtain rfl : args = [v0, v1, v2] := by simpa using congrArg Array.toList hargs
  obtain ⟨fuel0, h0⟩ := h0
  obtain ⟨c0, l0, q0, rfl⟩ := okWide_slice Tryd.underlying50 (hval 0 50 v0 rfl rfl)
  obtain ⟨L0, len0, num0, bit0, hw0, hs0, hl0, hm0, hn0, hob0, hwf0⟩ := open_rows Tryd.underlying50 k56 (by kernel_rfl) (by decide) (okWide_spot Tryd.underlying50 (hval 0 50 _ rfl rfl)) (by simpa [Value.cells] using h0)
  have hs0 : L0.slice 10 0 len0 none = some (.slice c0 l0 q0) := hs0
  obtain ⟨b, rfl, rb⟩ := okWide_num Tryd.underlying5 (hval 1 5 v1 rfl rfl)
  obtain ⟨z0, rz0, z1, rz1, rfl⟩ := open_flat_arr Tryd.underlying51 k51 (hval 2 51 v2 rfl rfl) h2
  obtain ⟨h, x, ob, hr, hx, hob⟩ := bx_runs len0 (rowAV tSh num0 bit0) b z0 z1 (u8_range rb) (u8_range rz0) (u8_range rz1)
  have e0 : inpT [(1, L0)] [(0, tab)] 1 = some L0 := inpT_of rfl
  exact run_lawG (W := W) (ρ := inpT [(1, L0)] [(0, tab)]) EBa_ok hr hx hob (heapRepT (heap := [(1, .arr 10 tSh true len0 (rowAV tSh num0 bit0))]) (ls := [(1, L0)]) (tabs := [(0, tab)]) (nxt := 2) rfl (by decide) rfl htab (rep_cons rfl rfl hob0 rep_nil)) (xs := [.slice c0 l0 q0, .int .u8 b, .agg #[.int .u8 z0, .int .u8 z1]])
    (by simp [denL, den, e0, hs0]) (inpT_fresh (nxt := 2) rfl (Nat.le_refl _)) (inpT_glob (nxt := 2) rfl (by decide))

theorem barriersAll_met (os : Os) (args : Array Value) : laidMetH Tryd.prog [("ragpicker/barriers.fields", Rows.laid_ragpicker_barriers_fields)] ((World.doorLaid Tryd.prog 400 os).forCall (fun _ _ => 0) ⟨#[], args, []⟩).memory :=
  laidMetH_of_parts3 (fuel := 8) (laidMet_of_run' 8 (by kernel_rfl) (by kernel_rfl)) (by kernel_rfl) (by kernel_rfl)
set_option maxRecDepth 100000 in
theorem barriersAll_lifted (os : Os) (started : os.Started) (H : Type) (enc : TypeId × Value → H) :
    ReturnsInHanded {} Tryd.checked os 4 .any (fun w args => (Rows.barriersAllSpec.pre enc Tryd.prog Tryd.f4 [] false w args ∧ laidMetH Tryd.prog [("ragpicker/barriers.fields", Rows.laid_ragpicker_barriers_fields)] w) ∧ sizedMet enc Tryd.prog Tryd.f4 (OpenSpec.ofChange Rows.barriersAllSpec) false w args)
      (Rows.barriersAllSpec.post enc Tryd.prog Tryd.f4 false true false false) := by
  refine returnsInHanded_of_change_and (C := Tryd.checked) (X := fun w _ => laidMetH Tryd.prog [("ragpicker/barriers.fields", Rows.laid_ragpicker_barriers_fields)] w) (fun _ _ _ hh h => h.of_heap hh) hown started (by kernel_rfl) Tryd.func4
    (ChangeSpec.witness_shaped (enc := enc) (C := Tryd.checked) (os := os) (X := fun w _ => laidMetH Tryd.prog [("ragpicker/barriers.fields", Rows.laid_ragpicker_barriers_fields)] w) false (World.doorLaid Tryd.prog 400 os) #[.slice none 0 0, .int .u8 0, .agg #[.int .u8 0, .int .u8 0]] 8 rfl (World.shaped_of_RefB (by kernel_rfl) (by kernel_rfl)) (by kernel_rfl) (by kernel_rfl) (by kernel_rfl) (barriersAll_met os _)) ?_
  intro W base args ds gs before hval0 hW _ _ hL _
  exact law_contractT Tryd.params4 barriersAll_runs hlaidOut (of_decide_eq_true (by kernel_rfl)) (by kernel_rfl) Tryd.underlying4 rfl
    (fun ds hl => by match ds, hl with | [d0, d1, d2], _ => exact ⟨rfl, rfl, rfl⟩) W base args ds gs before hval0 hW (tabs_laid (by kernel_rfl) barriersAll_tabs hL)

theorem barriersAll_row : Rows.BarriersAllSaid :=
  OpenClaim.holds_of_wide 4 Tryd.f4 rfl rfl rfl rfl rfl rfl rfl ⟨rfl, rfl, rfl, rfl, rfl⟩ rfl rfl rfl rfl rfl (by kernel_rfl) Tryd.func4 (by kernel_rfl)
    (of_decide_eq_true (by kernel_rfl)) (by unfold Func.isWrapper; first | (rw [if_pos (by decide +kernel)]; kernel_rfl) | (rw [if_neg (by decide +kernel)]; exact ⟨rfl, rfl⟩))
    (fun os started H enc _ => barriersAll_lifted os started H enc)

theorem barriersAll_holds : Rows.BarriersAllCardSaid :=
  Claim7.holds_tied_plain_at .later [] [.data] true (true, "aef9cb4274a300044c2e982b331af58232ab700c6782841032cdc684f6eff798") false barriersAll_row (fun _ h => by cases h) (by kernel_rfl) (fun _ h => by cases h) barriersAll_row_tie rfl ⟨rfl, rfl⟩ (by kernel_rfl) rfl
    (fun f fn hf hfn => by
      obtain rfl : f = 4 := Option.some.inj ((show Tryd.prog.funcNamed "ragpicker/ragpickerlaw22.BarriersAll" = some 4 by kernel_rfl).symm.trans hf) |>.symm
      obtain rfl : fn = Tryd.f4 := (Option.some.inj (Tryd.func4.symm.trans hfn)).symm
      exact ⟨by kernel_rfl, fun j t ht => by
        rw [Tryd.params4] at ht
        have hm : t ∈ [50, 5, 51] := by simpa using Array.mem_of_getElem? ht
        have hall : ([50, 5, 51].all fun u => !Tryd.prog.wantsStandIn u) = true := by kernel_rfl
        exact (show Tryd.prog.wantsStandIn t = false by simpa using List.all_eq_true.1 hall t hm)⟩)
    (by kernel_rfl)

#print axioms barriersAll_holds
end Go.Proofs.YtmlfmmnnbdlabaaDoor
