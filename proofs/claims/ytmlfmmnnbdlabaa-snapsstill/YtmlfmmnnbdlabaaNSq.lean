/-
  For all inputs, SnapsStill returns true; its arguments read as before. No condition.
-/
import Derived.Test.YtmlfmmnnbdlabaaNSqDef
import Derived.Test.YtmlfmmnnbdlabaaEvLoc2
set_option linter.unusedSimpArgs false
set_option linter.unusedVariables false
namespace Go.Proofs.Ytmlfmmnnbdlabaa
open Go.Ev Go.ChangeShapes Go.WideShapes Go.ChangeAt Go.RowKit
set_option maxRecDepth 100000
section
variable (n : Nat) (g : Nat → Nat → AV) (b : Int)
theorem stz_1 : (callF Est 5000 8 [AV.ss 10 1 0 n none, AV.sym IntKind.u8 b] ⟨[(1, AO.arr 10 tSh true n g)], 2, gnm 0, [Hint.b true], [], [], false⟩).map (fun x => (x.1, x.2.ob, noneIn [(1, AO.arr 10 tSh true n g)] x.2.wr)) =
 some (AV.bool true, [decide (Int.ofNat n > 16) = true], true) := by kernel_rfl
theorem stz_2 : (callF Est 5000 8 [AV.ss 10 1 0 n none, AV.sym IntKind.u8 b] ⟨[(1, AO.arr 10 tSh true n g)], 2, gnm 0, [Hint.b false, Hint.b true, Hint.node [(9, [Hint.b false])], Hint.b false, Hint.lp [0, 5, 7, 8, 10, 11] (Ex.exit 0) (slX n 0 g (stF (ssX n g b).M) (wlF (ssX n g b).M) (ssN b) (mLoad (ssX n g b) 5 0 0)).tmps (slX n 0 g (stF (ssX n g b).M) (wlF (ssX n g b).M) (ssN b) (mLoad (ssX n g b) 5 0 0)).hp.heap 3682564433883159603764838408931049046243722301798447888168702789108150520955258874243678853866642176794747519643505079885369413614121067184994593538037 [], Hint.b false, Hint.lp [7, 13, 14] (Ex.exit 2) (wlX n g (wlF (ssX n g b).M) (wlF (ssX n g b).M) (mLoad (ssX n g b) 5 0 0)).tmps (wlX n g (wlF (ssX n g b).M) (wlF (ssX n g b).M) (mLoad (ssX n g b) 5 0 0)).hp.heap 3682564433883159603764838408931049046243722301798447888168702789108150520955258874243678853866642176794747519643505079885369413614121067184994593538038 [], Hint.b true], [], [], false⟩).map (fun x => (x.1, x.2.ob, noneIn [(1, AO.arr 10 tSh true n g)] x.2.wr)) =
 some (AV.bool true, [wlLP n g (wlF (ssX n g b).M) (wlF (ssX n g b).M) (mLoad (ssX n g b) 5 0 0),
 (Int.ofNat (wlF (mLoad (ssX n g b) 5 0 0).M).length != Int.ofNat (wlF (ssX n g b).M).length) = false,
 FinM (mLoad (ssX n g b) 5 0 0).M 1000000,
 szLP n 0 g (stF (ssX n g b).M) (wlF (ssX n g b).M) (ssN b) (mLoad (ssX n g b) 5 0 0),
 ((mLoad (layN g (mStore (MS.mk (fun x => none) 0 (LS.mk 0 0 0 0 0 0 false)) 5 0 0 (IntKind.u64.wrap (IntKind.i64.wrap b))) n) 5 0 0).st != IntKind.i64.wrap ((layN g (mStore (MS.mk (fun x => none) 0 (LS.mk 0 0 0 0 0 0 false)) 5 0 0 (IntKind.u64.wrap (IntKind.i64.wrap b))) n).st + 1)) = false,
 (0 : Nat) ≤ (0 : Nat),
 (0 : Nat) ≤ (100000 : Nat),
 (0 != IntKind.i64.wrap (4 * if 4 < IntKind.i64.wrap b then 4 else IntKind.i64.wrap b)) = false,
 (200 : Int) = 200,
 mget (layN g (mStore (MS.mk (fun x => none) 0 (LS.mk 0 0 0 0 0 0 false)) 5 0 0 (IntKind.u64.wrap (IntKind.i64.wrap b))) n).M (key 5 0 0) = 0,
 FinM (layN g (mStore (MS.mk (fun x => none) 0 (LS.mk 0 0 0 0 0 0 false)) 5 0 0 (IntKind.u64.wrap (IntKind.i64.wrap b))) n).M 1000000,
 n = n,
 n ≤ 16,
 decide (Int.ofNat n > 16) = false], true) := by kernel_rfl
theorem stp_1 : (callF Est 5000 8 [AV.ss 10 1 0 n none, AV.sym IntKind.u8 b] ⟨[(1, AO.arr 10 tSh true n g)], 2, gnm 0, [Hint.b false, Hint.b false, Hint.node [(9, [Hint.b false])], Hint.b false, Hint.lp [0, 5, 7, 8, 10, 11] (Ex.exit 0) (slX n (skAl (ssX n g b).M) g (stF (ssX n g b).M) (wlF (ssX n g b).M) (ssN b) (ssY n g b)).tmps (slX n (skAl (ssX n g b).M) g (stF (ssX n g b).M) (wlF (ssX n g b).M) (ssN b) (ssY n g b)).hp.heap 3682564433883159603764838408931049046243722301798447888168702789108150520955258874243678853866642176794747519643505079885369413614121067184994593538037 [], Hint.b false, Hint.lp [7, 13, 14] (Ex.exit 2) (wlX n g (wlF (ssX n g b).M) (wlF (ssX n g b).M) (ssY n g b)).tmps (wlX n g (wlF (ssX n g b).M) (wlF (ssX n g b).M) (ssY n g b)).hp.heap 3682564433883159603764838408931049046243722301798447888168702789108150520955258874243678853866642176794747519643505079885369413614121067184994593538038 [], Hint.b true], [], [], false⟩).map (fun x => (x.1, x.2.ob, noneIn [(1, AO.arr 10 tSh true n g)] x.2.wr)) =
 some (AV.bool true, [wlLP n g (wlF (ssX n g b).M) (wlF (ssX n g b).M) (ssY n g b),
 (Int.ofNat (wlF (ssY n g b).M).length != Int.ofNat (wlF (ssX n g b).M).length) = false,
 FinM (ssY n g b).M 1000000,
 slLP n (skAl (ssX n g b).M) g (stF (ssX n g b).M) (wlF (ssX n g b).M) (ssN b) (ssY n g b),
 ((skM (layN g (mStore (MS.mk (fun x => none) 0 (LS.mk 0 0 0 0 0 0 false)) 5 0 0 (IntKind.u64.wrap (IntKind.i64.wrap b))) n)).st != IntKind.i64.wrap ((layN g (mStore (MS.mk (fun x => none) 0 (LS.mk 0 0 0 0 0 0 false)) 5 0 0 (IntKind.u64.wrap (IntKind.i64.wrap b))) n).st + stN (stF (layN g (mStore (MS.mk (fun x => none) 0 (LS.mk 0 0 0 0 0 0 false)) 5 0 0 (IntKind.u64.wrap (IntKind.i64.wrap b))) n).M) (skAl (layN g (mStore (MS.mk (fun x => none) 0 (LS.mk 0 0 0 0 0 0 false)) 5 0 0 (IntKind.u64.wrap (IntKind.i64.wrap b))) n).M))) = false,
 skAl (layN g (mStore (MS.mk (fun x => none) 0 (LS.mk 0 0 0 0 0 0 false)) 5 0 0 (IntKind.u64.wrap (IntKind.i64.wrap b))) n).M ≤ skAl (layN g (mStore (MS.mk (fun x => none) 0 (LS.mk 0 0 0 0 0 0 false)) 5 0 0 (IntKind.u64.wrap (IntKind.i64.wrap b))) n).M,
 skAl (layN g (mStore (MS.mk (fun x => none) 0 (LS.mk 0 0 0 0 0 0 false)) 5 0 0 (IntKind.u64.wrap (IntKind.i64.wrap b))) n).M ≤ 100000,
 (Int.ofNat (skAl (layN g (mStore (MS.mk (fun x => none) 0 (LS.mk 0 0 0 0 0 0 false)) 5 0 0 (IntKind.u64.wrap (IntKind.i64.wrap b))) n).M) != IntKind.i64.wrap (4 * if 4 < IntKind.i64.wrap b then 4 else IntKind.i64.wrap b)) = false,
 (200 : Int) = 200,
 0 ≤ mget (layN g (mStore (MS.mk (fun x => none) 0 (LS.mk 0 0 0 0 0 0 false)) 5 0 0 (IntKind.u64.wrap (IntKind.i64.wrap b))) n).M (key 5 0 0),
 mget (layN g (mStore (MS.mk (fun x => none) 0 (LS.mk 0 0 0 0 0 0 false)) 5 0 0 (IntKind.u64.wrap (IntKind.i64.wrap b))) n).M (key 5 0 0) ≠ 0,
 FinM (layN g (mStore (MS.mk (fun x => none) 0 (LS.mk 0 0 0 0 0 0 false)) 5 0 0 (IntKind.u64.wrap (IntKind.i64.wrap b))) n).M 1000000,
 n = n,
 n ≤ 16,
 decide (Int.ofNat n > 16) = false], true) := by kernel_rfl
theorem ssN_eq (hb : 0 ≤ b ∧ b < 256) : ssN b = 4 * (if 4 < b then 4 else b) := by
  unfold ssN
  rw [i64w (x := b) (by omega) (by omega)]
  exact i64w (by split <;> omega) (by split <;> omega)
theorem st_runs (hb : 0 ≤ b ∧ b < 256) : Runs (stRun n g b) := by
  cases h1 : (decide (Int.ofNat n > 16)) with
  | true => exact ⟨_, _, _, stz_1 n g b, .inl rfl, (ob_cons h1 ob_nil)⟩
  | false =>
    have hn : n ≤ 16 := by have := of_decide_eq_false h1; simp at this; omega
    have hfin := ss_fin n g b hn
    have hlen := wlF_len hfin
    have hblk := ss_blk n g b hb
    have hN := ssN_eq b hb
    have htb : tbN (ssX n g b).M = 4 * (if 4 < b then 4 else b) := by unfold tbN; rw [hblk]
    by_cases h0 : b = 0
    · have hz : ssN b = 0 := by rw [hN, h0]; rfl
      have hlp := sz_lp n 0 g (stF (ssX n g b).M) (wlF (ssX n g b).M) (ssN b) (mLoad (ssX n g b) 5 0 0) hz
      have hwp := wl_lp n g (wlF (ssX n g b).M) (wlF (ssX n g b).M) (mLoad (ssX n g b) 5 0 0) rfl hlen
      refine ⟨_, _, _, stz_2 n g b, .inl rfl, (cj ⟨hwp, ?_, hfin, hlp, ?_, Nat.le_refl _, Nat.zero_le _, ?_, rfl, hblk.trans h0, hfin, rfl, hn, h1, trivial⟩)⟩
      · show (Int.ofNat (wlF (ssX n g b).M).length != Int.ofNat (wlF (ssX n g b).M).length) = false
        simp
      · exact bne_self_eq_false _
      · show (0 != ssN b) = false
        rw [hz]; rfl
    · have hbl : mget (ssX n g b).M (key 5 0 0) ≠ 0 := by rw [hblk]; exact h0
      have hb0 : 0 ≤ mget (ssX n g b).M (key 5 0 0) := by rw [hblk]; exact hb.1
      obtain ⟨q, q1, q2, q3, q4⟩ := skAl_eq hb0
      have hz : ssN b = Int.ofNat (skAl (ssX n g b).M) := by rw [hN, ← htb, q3]
      have hlp := sl_lp n (skAl (ssX n g b).M) g (stF (ssX n g b).M) (wlF (ssX n g b).M) (ssN b) (ssY n g b) (by omega) hn hz (fun i _ => ss_rows n g b hn i)
      have hwp := wl_lp n g (wlF (ssX n g b).M) (wlF (ssX n g b).M) (ssY n g b) rfl hlen
      have hst : (skM (ssX n g b)).st = IntKind.i64.wrap ((ssX n g b).st + stN (stF (ssX n g b).M) (skAl (ssX n g b).M)) := by
        rw [stN_C, show (1 : Int) + Int.ofNat (stC (ssX n g b).M (skAl (ssX n g b).M)) = Int.ofNat (stC (ssX n g b).M (skAl (ssX n g b).M)) + 1 from Int.add_comm _ _]
        exact (st_all _).st
      refine ⟨_, _, _, stp_1 n g b, .inl rfl, (cj ⟨hwp, ?_, hfin, hlp, ?_, Nat.le_refl _, ?_, ?_, rfl, hb0, hbl, hfin, rfl, hn, h1, trivial⟩)⟩
      · show (Int.ofNat (wlF (ssX n g b).M).length != Int.ofNat (wlF (ssX n g b).M).length) = false
        simp
      · show ((skM (ssX n g b)).st != IntKind.i64.wrap ((ssX n g b).st + stN (stF (ssX n g b).M) (skAl (ssX n g b).M))) = false
        rw [hst]; simp
      · show skAl (ssX n g b).M ≤ 100000
        omega
      · show (Int.ofNat (skAl (ssX n g b).M) != ssN b) = false
        rw [hz]; simp

end
theorem hown : ownKnob Try.prog.godebug = none := by kernel_rfl
theorem hlaidOut : laidOutB Try.prog = true := by kernel_rfl
theorem k71 : flatK Try.prog 4 71 = some tSh := by kernel_rfl
set_option maxRecDepth 100000 in
theorem snapsStill_runs : LawRuns Try.prog 8 [65, 5] := by
  intro H enc W base args ds p hval hA
  obtain ⟨v0, v1, d0, d1, p0, p1, hargs, rfl, rfl, h0, h1⟩ := trodAll_two (args := args.toArray) hA
  obtain rfl : args = [v0, v1] := by simpa using congrArg Array.toList hargs
  obtain ⟨fuel0, h0⟩ := h0
  obtain ⟨c0, l0, q0, rfl⟩ := okWide_slice Try.underlying65 (hval 0 65 v0 rfl rfl)
  obtain ⟨L0, len0, num0, bit0, hw0, hs0, hl0, hm0, hn0, hob0, hwf0⟩ := open_rows Try.underlying65 k71 (by kernel_rfl) (by decide) (okWide_spot Try.underlying65 (hval 0 65 _ rfl rfl)) (by simpa [Value.cells] using h0)
  have hs0 : L0.slice 10 0 len0 none = some (.slice c0 l0 q0) := hs0
  obtain ⟨b, rfl, rb⟩ := okWide_num Try.underlying5 (hval 1 5 v1 rfl rfl)
  obtain ⟨h, x, ob, hr, hx, hob⟩ := st_runs len0 (rowAV tSh num0 bit0) b (u8_range rb)
  have e0 : inpT [(1, L0)] [] 1 = some L0 := inpT_of rfl
  exact run_lawG (W := W) (ρ := inpT [(1, L0)] []) Est_ok hr hx hob (heapRepT (heap := [(1, .arr 10 tSh true len0 (rowAV tSh num0 bit0))]) (ls := [(1, L0)]) (tabs := []) (nxt := 2) rfl (by decide) rfl (fun g vs h => by cases h) (rep_cons rfl rfl hob0 rep_nil)) (xs := [.slice c0 l0 q0, .int .u8 b])
    (by simp [denL, den, e0, hs0]) (inpT_fresh (nxt := 2) rfl (Nat.le_refl _)) (inpT_glob (nxt := 2) rfl (by decide))

set_option maxRecDepth 100000 in
theorem snapsStill_lifted (os : Os) (started : os.Started) (H : Type) (enc : TypeId × Value → H) :
    ReturnsInHanded {} Try.checked os 8 .any (Rows.snapsStillSpec.pre6 enc Try.prog Try.f8 Rows.snapsStillRow.domain false) (Rows.snapsStillSpec.post enc Try.prog Try.f8 false true false false) := by
  refine returnsInHanded_of_change (C := Try.checked) hown started (by kernel_rfl) Try.func8
    (ChangeSpec.witness6 (enc := enc) (C := Try.checked) false ⟨#[], #[.slice none 0 0, .int .u8 0], []⟩ 8 (by kernel_rfl) (by kernel_rfl) (by kernel_rfl) (by kernel_rfl)) ?_
  intro W base args ds gs before hval0 hW hcnd _
  exact law_contract Try.params8 snapsStill_runs hlaidOut (of_decide_eq_true (by kernel_rfl)) (by kernel_rfl) Try.underlying4 rfl
    (fun ds hl => by match ds, hl with | [d0, d1], _ => exact ⟨rfl, rfl, rfl⟩) W base args ds gs before hval0 hW

theorem snapsStill_holds : Rows.SnapsStillSaid :=
  OpenClaim.holds_of_wide 8 Try.f8 rfl rfl rfl rfl rfl rfl rfl ⟨rfl, rfl, rfl, rfl, rfl⟩ rfl rfl rfl rfl rfl (by kernel_rfl) Try.func8 (by kernel_rfl)
    (of_decide_eq_true (by kernel_rfl)) (by unfold Func.isWrapper; first | (rw [if_pos (by decide +kernel)]; kernel_rfl) | (rw [if_neg (by decide +kernel)]; exact ⟨rfl, rfl⟩))
    (fun os started H enc _ => snapsStill_lifted os started H enc)

#print axioms snapsStill_holds
end Go.Proofs.Ytmlfmmnnbdlabaa
