/-
  For all inputs, BarriersPlay returns true; its arguments read as before. No condition.
-/
import Derived.Test.YtmlfmmnnbdlabaaDoorQBzDef
import Derived.Test.YtmlfmmnnbdlabaaDoorEvDoor
import Derived.Test.YtmlfmmnnbdlabaaDoorTie
import Derived.Test.YtmlfmmnnbdlabaaDoorCards
import Derived.LaidMore
import Derived.ChangeMaps5
import Derived.OpenShut
import Derived.SevenTiedAt
set_option linter.unusedSimpArgs false
set_option linter.unusedVariables false
namespace Go.Proofs.YtmlfmmnnbdlabaaDoor
open Go.Ev Go.ChangeShapes Go.WideShapes Go.ChangeAt Go.RowKit
set_option maxRecDepth 100000
section
variable (n : Nat) (g : Nat → Nat → AV) (m : Nat) (f : Nat → Nat → AV) (nb lk : Int)
theorem bya_1 : (callF EBy 6000 3 [AV.ss 4 1 0 n none, AV.ss 4 2 0 m none, AV.agg [AV.sym IntKind.u64 nb, AV.sym IntKind.i64 lk]] ⟨(tabsH [(0, tab)] ++ [(1, AO.arr 4 wSh true n g), (2, AO.arr 4 wSh true m f)]), 3, gnm 0, [Hint.b true], [], [], false⟩).map (fun x => (x.1, x.2.ob, noneIn (tabsH [(0, tab)] ++ [(1, AO.arr 4 wSh true n g), (2, AO.arr 4 wSh true m f)]) x.2.wr)) =
 some (AV.bool true, [TabIs tab (tabF tab),
 decide (Int.ofNat n > 300) = true], true) := by kernel_rfl
theorem bya_2 : (callF EBy 6000 3 [AV.ss 4 1 0 n none, AV.ss 4 2 0 m none, AV.agg [AV.sym IntKind.u64 nb, AV.sym IntKind.i64 lk]] ⟨(tabsH [(0, tab)] ++ [(1, AO.arr 4 wSh true n g), (2, AO.arr 4 wSh true m f)]), 3, gnm 0, [Hint.b false, Hint.b true], [], [], false⟩).map (fun x => (x.1, x.2.ob, noneIn (tabsH [(0, tab)] ++ [(1, AO.arr 4 wSh true n g), (2, AO.arr 4 wSh true m f)]) x.2.wr)) =
 some (AV.bool true, [TabIs tab (tabF tab),
 decide (Int.ofNat m > 400) = true,
 decide (Int.ofNat n > 300) = false], true) := by kernel_rfl
theorem bya_3 : (callF EBy 6000 3 [AV.ss 4 1 0 n none, AV.ss 4 2 0 m none, AV.agg [AV.sym IntKind.u64 nb, AV.sym IntKind.i64 lk]] ⟨(tabsH [(0, tab)] ++ [(1, AO.arr 4 wSh true n g), (2, AO.arr 4 wSh true m f)]), 3, gnm 0, [Hint.b false, Hint.b false, Hint.b true], [], [], false⟩).map (fun x => (x.1, x.2.ob, noneIn (tabsH [(0, tab)] ++ [(1, AO.arr 4 wSh true n g), (2, AO.arr 4 wSh true m f)]) x.2.wr)) =
 some (AV.bool true, [TabIs tab (tabF tab),
 decide (lk > 60) = true,
 decide (Int.ofNat m > 400) = false,
 decide (Int.ofNat n > 300) = false], true) := by kernel_rfl
theorem byb_1 (al : Int) (y : PB) : (callF EBy 6000 3 [AV.ss 4 1 0 n none, AV.ss 4 2 0 m none, AV.agg [AV.sym IntKind.u64 nb, AV.sym IntKind.i64 lk]] ⟨(tabsH [(0, tab)] ++ [(1, AO.arr 4 wSh true n g), (2, AO.arr 4 wSh true m f)]), 3, gnm 0, [Hint.b false, Hint.b false, Hint.b false, Hint.lp [1, 7, 8, 9, 10] (Ex.exit 0) (pbX n g m f nb lk al y).tmps (pbX n g m f nb lk al y).hp.heap 12 [7, 6, 5, 4, 9, 10], Hint.b true], [], [], false⟩).map (fun x => (x.1, x.2.ob, noneIn (tabsH [(0, tab)] ++ [(1, AO.arr 4 wSh true n g), (2, AO.arr 4 wSh true m f)]) x.2.wr)) =
 some (AV.bool true, [TabIs tab (tabF tab),
 Both y.S y.R,
 pbLP n g m f nb lk al (msN (bgW g) n) (rsN (bgW g) n) y,
 n ≤ n,
 n ≤ 300,
 ∀ (i : Nat), i < n → 0 ≤ avInt (g i 0),
 decide (lk > 60) = false,
 decide (Int.ofNat m > 400) = false,
 decide (Int.ofNat n > 300) = false], true) := by kernel_rfl
theorem by_runs (hg : ∀ i, i < n → 0 ≤ avInt (g i 0)) (hg3 : ∀ i, i < n → 0 ≤ avInt (g i 3) ∧ avInt (g i 3) < 18446744073709551616) (hr : ∀ i, i < m → 0 ≤ avInt (f i 0)) (hf : ∀ i, i < m → 0 ≤ avInt (f i 3) ∧ avInt (f i 3) < 18446744073709551616) (hnb : 0 ≤ nb ∧ nb < 18446744073709551616) (hlk : -9223372036854775808 ≤ lk ∧ lk < 9223372036854775808) : Runs (byRun n g m f nb lk) := by
  have ht := tabIs_self tab
  cases h1 : (decide (Int.ofNat n > 300)) with
  | true => exact ⟨_, _, _, bya_1 n g m f nb lk, .inl rfl, (cj ⟨ht, h1, trivial⟩)⟩
  | false =>
    cases h2 : (decide (Int.ofNat m > 400)) with
    | true => exact ⟨_, _, _, bya_2 n g m f nb lk, .inl rfl, (cj ⟨ht, h2, h1, trivial⟩)⟩
    | false =>
      cases h3 : (decide (lk > 60)) with
      | true => exact ⟨_, _, _, bya_3 n g m f nb lk, .inl rfl, (cj ⟨ht, h3, h2, h1, trivial⟩)⟩
      | false =>
        have hn : n ≤ 300 := by have := of_decide_eq_false h1; simp at this; omega
        have hl : lk ≤ 60 := by have := of_decide_eq_false h3; omega
        have hfin : Fin2 (msN (bgW g) n) (rsN (bgW g) n) n := ⟨fineN _ _, msN_u n (fun i hi => hg3 i hi)⟩
        obtain ⟨al, hal⟩ : ∃ al : Int, al = 4 * (if 4 < mget (pbM m f 0 (msN (bgW g) n)).M (key 5 0 0) then 4 else mget (pbM m f 0 (msN (bgW g) n)).M (key 5 0 0)) := ⟨_, rfl⟩
        obtain ⟨K, hK, hok, k0, k1, hbo⟩ := pb_ok hf hr hfin hn hnb ⟨hlk.1, hl⟩ hal
        have hlp := pb_lp n g m f nb lk al _ _ K hK hok k0 k1
        exact ⟨_, _, _, byb_1 n g m f nb lk al _, .inl rfl, (cj ⟨ht, hbo, hlp, Nat.le_refl _, hn, hg, h3, h2, h1, trivial⟩)⟩
end
theorem hown : ownKnob Tryd.prog.godebug = none := by kernel_rfl
theorem hlaidOut : laidOutB Tryd.prog = true := by kernel_rfl
theorem k44 : flatK Tryd.prog 4 44 = some wSh := by kernel_rfl
theorem k25 : flatK Tryd.prog 4 25 = some [.int .u64, .int .i64] := by kernel_rfl
theorem barriersPlay_tabs : TabsOk Tryd.prog [("ragpicker/barriers.fields", Rows.laid_ragpicker_barriers_fields)] [(0, tab)] := tabsOkB_ok (by kernel_rfl)
set_option maxRecDepth 100000 in
theorem barriersPlay_runs : LawRunsT Tryd.prog 3 [22, 22, 25] [(0, tab)] := by
  intro H enc W base args ds p hval hA htab
  obtain ⟨v0, v1, v2, d0, d1, d2, p0, p1, p2, hargs, rfl, rfl, h0, h1, h2⟩ := trodAll_three (args := args.toArray) hA
  obtain rfl : args = [v0, v1, v2] := by simpa using congrArg Array.toList hargs
  obtain ⟨fuel0, h0⟩ := h0
  obtain ⟨c0, l0, q0, rfl⟩ := okWide_slice Tryd.underlying22 (hval 0 22 v0 rfl rfl)
  obtain ⟨L0, len0, num0, bit0, hw0, hs0, hl0, hm0, hn0, hob0, hwf0⟩ := open_rows Tryd.underlying22 k44 (by kernel_rfl) (by decide) (okWide_spot Tryd.underlying22 (hval 0 22 _ rfl rfl)) (by simpa [Value.cells] using h0)
  have hs0 : L0.slice 4 0 len0 none = some (.slice c0 l0 q0) := hs0
  obtain ⟨fuel1, h1⟩ := h1
  obtain ⟨c1, l1, q1, rfl⟩ := okWide_slice Tryd.underlying22 (hval 1 22 v1 rfl rfl)
  obtain ⟨L1, len1, num1, bit1, hw1, hs1, hl1, hm1, hn1, hob1, hwf1⟩ := open_rows Tryd.underlying22 k44 (by kernel_rfl) (by decide) (okWide_spot Tryd.underlying22 (hval 1 22 _ rfl rfl)) (by simpa [Value.cells] using h1)
  have hs1 : L1.slice 4 0 len1 none = some (.slice c1 l1 q1) := hs1
  obtain ⟨nb, rnb, lk, rlk, rfl⟩ := open_flat Tryd.underlying25 k25 (hval 2 25 v2 rfl rfl) h2
  obtain ⟨h, x, ob, hr, hx, hob⟩ := by_runs len0 (rowAV wSh num0 bit0) len1 (rowAV wSh num1 bit1) nb lk (fun i hi => (u8_range (hwf0 i hi 0 .u8 rfl)).1) (fun i hi => u64_range (hwf0 i hi 3 .u64 rfl)) (fun i hi => (u8_range (hwf1 i hi 0 .u8 rfl)).1) (fun i hi => u64_range (hwf1 i hi 3 .u64 rfl)) (u64_range rnb) (i64_range rlk)
  have e0 : inpT [(1, L0), (2, L1)] [(0, tab)] 1 = some L0 := inpT_of rfl
  have e1 : inpT [(1, L0), (2, L1)] [(0, tab)] 2 = some L1 := inpT_of rfl
  exact run_lawG (W := W) (ρ := inpT [(1, L0), (2, L1)] [(0, tab)]) EBy_ok hr hx hob (heapRepT (heap := [(1, .arr 4 wSh true len0 (rowAV wSh num0 bit0)), (2, .arr 4 wSh true len1 (rowAV wSh num1 bit1))]) (ls := [(1, L0), (2, L1)]) (tabs := [(0, tab)]) (nxt := 3) rfl (by decide) rfl htab (rep_cons rfl rfl hob0 (rep_cons rfl rfl hob1 rep_nil))) (xs := [.slice c0 l0 q0, .slice c1 l1 q1, .agg #[.int .u64 nb, .int .i64 lk]])
    (by simp [denL, den, e0, hs0, e1, hs1]) (inpT_fresh (nxt := 3) rfl (Nat.le_refl _)) (inpT_glob (nxt := 3) rfl (by decide))

theorem barriersPlay_met (os : Os) (args : Array Value) : laidMetH Tryd.prog [("ragpicker/barriers.fields", Rows.laid_ragpicker_barriers_fields)] ((World.doorLaid Tryd.prog 400 os).forCall (fun _ _ => 0) ⟨#[], args, []⟩).memory :=
  laidMetH_of_parts3 (fuel := 8) (laidMet_of_run' 8 (by kernel_rfl) (by kernel_rfl)) (by kernel_rfl) (by kernel_rfl)
set_option maxRecDepth 100000 in
theorem barriersPlay_lifted (os : Os) (started : os.Started) (H : Type) (enc : TypeId × Value → H) :
    ReturnsInHanded {} Tryd.checked os 3 .any (fun w args => (Rows.barriersPlaySpec.pre enc Tryd.prog Tryd.f3 [] false w args ∧ laidMetH Tryd.prog [("ragpicker/barriers.fields", Rows.laid_ragpicker_barriers_fields)] w) ∧ sizedMet enc Tryd.prog Tryd.f3 (OpenSpec.ofChange Rows.barriersPlaySpec) false w args)
      (Rows.barriersPlaySpec.post enc Tryd.prog Tryd.f3 false true false false) := by
  refine returnsInHanded_of_change_and (C := Tryd.checked) (X := fun w _ => laidMetH Tryd.prog [("ragpicker/barriers.fields", Rows.laid_ragpicker_barriers_fields)] w) (fun _ _ _ hh h => h.of_heap hh) hown started (by kernel_rfl) Tryd.func3
    (ChangeSpec.witness_shaped (enc := enc) (C := Tryd.checked) (os := os) (X := fun w _ => laidMetH Tryd.prog [("ragpicker/barriers.fields", Rows.laid_ragpicker_barriers_fields)] w) false (World.doorLaid Tryd.prog 400 os) #[.slice none 0 0, .slice none 0 0, .agg #[.int .u64 0, .int .i64 0]] 8 rfl (World.shaped_of_RefB (by kernel_rfl) (by kernel_rfl)) (by kernel_rfl) (by kernel_rfl) (by kernel_rfl) (barriersPlay_met os _)) ?_
  intro W base args ds gs before hval0 hW _ _ hL _
  exact law_contractT Tryd.params3 barriersPlay_runs hlaidOut (of_decide_eq_true (by kernel_rfl)) (by kernel_rfl) Tryd.underlying4 rfl
    (fun ds hl => by match ds, hl with | [d0, d1, d2], _ => exact ⟨rfl, rfl, rfl⟩) W base args ds gs before hval0 hW (tabs_laid (by kernel_rfl) barriersPlay_tabs hL)

theorem barriersPlay_row : Rows.BarriersPlaySaid :=
  OpenClaim.holds_of_wide 3 Tryd.f3 rfl rfl rfl rfl rfl rfl rfl ⟨rfl, rfl, rfl, rfl, rfl⟩ rfl rfl rfl rfl rfl (by kernel_rfl) Tryd.func3 (by kernel_rfl)
    (of_decide_eq_true (by kernel_rfl)) (by unfold Func.isWrapper; first | (rw [if_pos (by decide +kernel)]; kernel_rfl) | (rw [if_neg (by decide +kernel)]; exact ⟨rfl, rfl⟩))
    (fun os started H enc _ => barriersPlay_lifted os started H enc)

theorem barriersPlay_holds : Rows.BarriersPlayCardSaid :=
  Claim7.holds_tied_plain_at .later [] [.data] true (true, "aef9cb4274a300044c2e982b331af58232ab700c6782841032cdc684f6eff798") false barriersPlay_row (fun _ h => by cases h) (by kernel_rfl) (fun _ h => by cases h) barriersPlay_row_tie rfl ⟨rfl, rfl⟩ (by kernel_rfl) rfl
    (fun f fn hf hfn => by
      obtain rfl : f = 3 := Option.some.inj ((show Tryd.prog.funcNamed "ragpicker/ragpickerlaw22.BarriersPlay" = some 3 by kernel_rfl).symm.trans hf) |>.symm
      obtain rfl : fn = Tryd.f3 := (Option.some.inj (Tryd.func3.symm.trans hfn)).symm
      exact ⟨by kernel_rfl, fun j t ht => by
        rw [Tryd.params3] at ht
        have hm : t ∈ [22, 22, 25] := by simpa using Array.mem_of_getElem? ht
        have hall : ([22, 22, 25].all fun u => !Tryd.prog.wantsStandIn u) = true := by kernel_rfl
        exact (show Tryd.prog.wantsStandIn t = false by simpa using List.all_eq_true.1 hall t hm)⟩)
    (by kernel_rfl)

#print axioms barriersPlay_holds
end Go.Proofs.YtmlfmmnnbdlabaaDoor
