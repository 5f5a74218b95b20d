/-
  For all inputs, HazardsHeld returns true; its arguments read as before. No condition.
-/
import Derived.Test.YtljeiencnpnbkaaDoorUHzDef
import Derived.Test.YtljeiencnpnbkaaDoorTie
import Derived.Test.YtljeiencnpnbkaaDoorCards
import Derived.LaidMore
import Derived.ChangeMaps5
import Derived.OpenShut
import Derived.SevenTiedAt
set_option linter.unusedSimpArgs false
set_option linter.unusedVariables false
namespace Go.Proofs.YtljeiencnpnbkaaDoor
open Go.Ev Go.ChangeShapes Go.WideShapes Go.ChangeAt Go.RowKit
set_option maxRecDepth 100000
theorem hz_1 (m : Nat) (f : Nat → Nat → AV) (mn : Nat) (fe : Nat → Nat → AV) : (callF EHz 6000 4 [AV.ss 10 1 0 m none, AV.ss 6 2 0 mn none] ⟨[(gnm 0, tabAO tab), (1, AO.arr 10 [CK.int IntKind.u64, CK.int IntKind.u64, CK.int IntKind.u64, CK.int IntKind.u64, CK.int IntKind.u64, CK.int IntKind.u64, CK.int IntKind.u64, CK.int IntKind.u64, CK.int IntKind.u64, CK.int IntKind.u64] true m f), (2, AO.arr 6 [CK.int IntKind.i64, CK.int IntKind.u32, CK.bool, CK.int IntKind.u64, CK.int IntKind.u64, CK.int IntKind.u64] true mn fe)], 3, gnm 0, [Hint.b true], [], [], false⟩).map (fun x => (x.1, x.2.ob, noneIn [(gnm 0, tabAO tab), (1, AO.arr 10 [CK.int IntKind.u64, CK.int IntKind.u64, CK.int IntKind.u64, CK.int IntKind.u64, CK.int IntKind.u64, CK.int IntKind.u64, CK.int IntKind.u64, CK.int IntKind.u64, CK.int IntKind.u64, CK.int IntKind.u64] true m f), (2, AO.arr 6 [CK.int IntKind.i64, CK.int IntKind.u32, CK.bool, CK.int IntKind.u64, CK.int IntKind.u64, CK.int IntKind.u64] true mn fe)] x.2.wr)) =
 some (AV.bool true, [tabF tab = tabF tab,
 decide (Int.ofNat m > 30) = true], true) := by kernel_rfl
theorem hz_2 (m : Nat) (f : Nat → Nat → AV) (mn : Nat) (fe : Nat → Nat → AV) : (callF EHz 6000 4 [AV.ss 10 1 0 m none, AV.ss 6 2 0 mn none] ⟨[(gnm 0, tabAO tab), (1, AO.arr 10 [CK.int IntKind.u64, CK.int IntKind.u64, CK.int IntKind.u64, CK.int IntKind.u64, CK.int IntKind.u64, CK.int IntKind.u64, CK.int IntKind.u64, CK.int IntKind.u64, CK.int IntKind.u64, CK.int IntKind.u64] true m f), (2, AO.arr 6 [CK.int IntKind.i64, CK.int IntKind.u32, CK.bool, CK.int IntKind.u64, CK.int IntKind.u64, CK.int IntKind.u64] true mn fe)], 3, gnm 0, [Hint.b false, Hint.b true], [], [], false⟩).map (fun x => (x.1, x.2.ob, noneIn [(gnm 0, tabAO tab), (1, AO.arr 10 [CK.int IntKind.u64, CK.int IntKind.u64, CK.int IntKind.u64, CK.int IntKind.u64, CK.int IntKind.u64, CK.int IntKind.u64, CK.int IntKind.u64, CK.int IntKind.u64, CK.int IntKind.u64, CK.int IntKind.u64] true m f), (2, AO.arr 6 [CK.int IntKind.i64, CK.int IntKind.u32, CK.bool, CK.int IntKind.u64, CK.int IntKind.u64, CK.int IntKind.u64] true mn fe)] x.2.wr)) =
 some (AV.bool true, [tabF tab = tabF tab,
 decide (Int.ofNat mn > 30) = true,
 decide (Int.ofNat m > 30) = false], true) := by kernel_rfl
theorem hz_3 (m : Nat) (f : Nat → Nat → AV) (mn : Nat) (fe : Nat → Nat → AV) : (callF EHz 6000 4 [AV.ss 10 1 0 m none, AV.ss 6 2 0 mn none] ⟨[(gnm 0, tabAO tab), (1, AO.arr 10 [CK.int IntKind.u64, CK.int IntKind.u64, CK.int IntKind.u64, CK.int IntKind.u64, CK.int IntKind.u64, CK.int IntKind.u64, CK.int IntKind.u64, CK.int IntKind.u64, CK.int IntKind.u64, CK.int IntKind.u64] true m f), (2, AO.arr 6 [CK.int IntKind.i64, CK.int IntKind.u32, CK.bool, CK.int IntKind.u64, CK.int IntKind.u64, CK.int IntKind.u64] true mn fe)], 3, gnm 0, [Hint.b false, Hint.b false, Hint.b false, Hint.lp [0, 1, 5, 6, 7] (Ex.exit 0) (haX m f mn fe (hlF (hM f m)) (hlF (hM f m)).length).tmps (haX m f mn fe (hlF (hM f m)) (hlF (hM f m)).length).hp.heap 5 [3], Hint.lp [0, 1, 5, 6, 8] (Ex.exit 2) (hcX m f mn fe (hlF (hM f m)) mn).tmps (hcX m f mn fe (hlF (hM f m)) mn).hp.heap 5 [3]], [], [], false⟩).map (fun x => (x.1, x.2.ob, noneIn [(gnm 0, tabAO tab), (1, AO.arr 10 [CK.int IntKind.u64, CK.int IntKind.u64, CK.int IntKind.u64, CK.int IntKind.u64, CK.int IntKind.u64, CK.int IntKind.u64, CK.int IntKind.u64, CK.int IntKind.u64, CK.int IntKind.u64, CK.int IntKind.u64] true m f), (2, AO.arr 6 [CK.int IntKind.i64, CK.int IntKind.u32, CK.bool, CK.int IntKind.u64, CK.int IntKind.u64, CK.int IntKind.u64] true mn fe)] x.2.wr)) =
 some (AV.bool true, [tabF tab = tabF tab,
 hcLP m f mn fe (hlF (hM f m)),
 haLP m f mn fe (hlF (hM f m)),
 decide (Int.ofNat (hlF (hM f m)).length > IntKind.i64.wrap (3 * Int.ofNat m)) = false,
 m = m,
 tabF tab = tabF tab,
 m ≤ 300,
 ∀ (i : Nat), i < m → ∀ (j : Nat), 0 ≤ avInt (f (0 + i) j) ∧ avInt (f (0 + i) j) < 18446744073709551616,
 decide (Int.ofNat mn > 30) = false,
 decide (Int.ofNat m > 30) = false], true) := by kernel_rfl
theorem hz_runs (m : Nat) (f : Nat → Nat → AV) (mn : Nat) (fe : Nat → Nat → AV) (hf : ∀ i, i < m → ∀ j, 0 ≤ avInt (f (0 + i) j) ∧ avInt (f (0 + i) j) < 18446744073709551616) : Runs (hzRun m f mn fe) := by
  have hL3 : m ≤ 300 → (hlF (hM f m)).length ≤ 3 * m := fun h => (hM_i f m h).hl.2
  have hla : m ≤ 30 → haLP m f mn fe (hlF (hM f m)) := fun h => ha_lp m f mn fe _ (by have := hL3 (by omega); omega) (by omega) hf rfl
  have hlc : m ≤ 30 → mn ≤ 30 → hcLP m f mn fe (hlF (hM f m)) := fun h h2 => hc_lp m f mn fe _ (by have := hL3 (by omega); omega) h2 (by omega) hf rfl
  have hl3 : m ≤ 30 → decide (Int.ofNat (hlF (hM f m)).length > IntKind.i64.wrap (3 * Int.ofNat m)) = false := fun h => by
    have := hL3 (by omega)
    rw [wrap_nat64 _ (by simp; omega) (by simp; omega)]
    exact decide_eq_false (by simp; omega)
  cases h1 : (decide (Int.ofNat m > 30)) with
  | true =>
    have g1 := of_decide_eq_true h1
    try simp only [Int.ofNat_eq_natCast, ge_iff_le, gt_iff_lt, Int.not_lt, Int.not_le] at g1
    refine ⟨_, _, _, hz_1 m f mn fe, .inl rfl, (ob_cons rfl (ob_cons h1 ob_nil))⟩
  | false =>
    have g1 := of_decide_eq_false h1
    try simp only [Int.ofNat_eq_natCast, ge_iff_le, gt_iff_lt, Int.not_lt, Int.not_le] at g1
    cases h2 : (decide (Int.ofNat mn > 30)) with
    | true =>
      have g2 := of_decide_eq_true h2
      try simp only [Int.ofNat_eq_natCast, ge_iff_le, gt_iff_lt, Int.not_lt, Int.not_le] at g2
      refine ⟨_, _, _, hz_2 m f mn fe, .inl rfl, (ob_cons rfl (ob_cons h2 (ob_cons h1 ob_nil)))⟩
    | false =>
      have g2 := of_decide_eq_false h2
      try simp only [Int.ofNat_eq_natCast, ge_iff_le, gt_iff_lt, Int.not_lt, Int.not_le] at g2
      refine ⟨_, _, _, hz_3 m f mn fe, .inl rfl, (ob_cons rfl (ob_cons ?_ (ob_cons ?_ (ob_cons ?_ (ob_cons rfl (ob_cons rfl (ob_cons ?_ (ob_cons ?_ (ob_cons h2 (ob_cons h1 ob_nil))))))))))⟩
      ·
        first | with_reducible assumption | exact rfl | exact tabIs_self _ | exact hf | exact hla (by omega) | exact hlc (by omega) (by omega) | exact hl3 (by omega) | exact .inl ⟨rfl, rfl⟩ | exact fun _ => rfl | (simp; done) | (simp; omega) | omega | trivial
      ·
        first | with_reducible assumption | exact rfl | exact tabIs_self _ | exact hf | exact hla (by omega) | exact hlc (by omega) (by omega) | exact hl3 (by omega) | exact .inl ⟨rfl, rfl⟩ | exact fun _ => rfl | (simp; done) | (simp; omega) | omega | trivial
      ·
        first | with_reducible assumption | exact rfl | exact tabIs_self _ | exact hf | exact hla (by omega) | exact hlc (by omega) (by omega) | exact hl3 (by omega) | exact .inl ⟨rfl, rfl⟩ | exact fun _ => rfl | (simp; done) | (simp; omega) | omega | (apply Nat.ble_eq_true_of_le; omega) | (simp [Nat.blt_eq]; omega)
      ·
        first | with_reducible assumption | exact rfl | exact tabIs_self _ | exact hf | exact hla (by omega) | exact hlc (by omega) (by omega) | exact hl3 (by omega) | exact .inl ⟨rfl, rfl⟩ | exact fun _ => rfl | (simp; done) | (simp; omega) | omega | exact Nat.le_refl _ | omega
      ·
        first | with_reducible assumption | exact rfl | exact tabIs_self _ | exact hf | exact hla (by omega) | exact hlc (by omega) (by omega) | exact hl3 (by omega) | exact .inl ⟨rfl, rfl⟩ | exact fun _ => rfl | (simp; done) | (simp; omega) | omega | exact fun _ => rfl
theorem hown : ownKnob Tryd.prog.godebug = none := by kernel_rfl
theorem hlaidOut : laidOutB Tryd.prog = true := by kernel_rfl
theorem k97 : flatK Tryd.prog 4 97 = some [.int .u64, .int .u64, .int .u64, .int .u64, .int .u64, .int .u64, .int .u64, .int .u64, .int .u64, .int .u64] := by kernel_rfl
theorem k28 : flatK Tryd.prog 4 28 = some [.int .i64, .int .u32, .bool, .int .u64, .int .u64, .int .u64] := by kernel_rfl
theorem hazardsHeld_tabs : TabsOk Tryd.prog [("ragpicker/words.fields", Rows.laid_ragpicker_words_fields)] [(0, tab)] := tabsOkB_ok (by kernel_rfl)
set_option maxRecDepth 100000 in
theorem hazardsHeld_runs : LawRunsT Tryd.prog 4 [22, 37] [(0, tab)] := by
  intro H enc W base args ds p hval hA htab
  obtain ⟨v0, v1, d0, d1, p0, p1, hargs, rfl, rfl, h0, h1⟩ := trodAll_two (args := args.toArray) hA
  obtain rfl : args = [v0, v1] := by simpa using congrArg Array.toList hargs
  obtain ⟨fuel0, h0⟩ := h0
  obtain ⟨c0, l0, q0, rfl⟩ := okWide_slice Tryd.underlying22 (hval 0 22 v0 rfl rfl)
  obtain ⟨L0, len0, num0, bit0, hw0, hs0, hl0, hm0, hn0, hob0, hwf0⟩ := open_rows Tryd.underlying22 k97 (by kernel_rfl) (by decide) (okWide_spot Tryd.underlying22 (hval 0 22 _ rfl rfl)) (by simpa [Value.cells] using h0)
  have hs0 : L0.slice 10 0 len0 none = some (.slice c0 l0 q0) := hs0
  obtain ⟨fuel1, h1⟩ := h1
  obtain ⟨c1, l1, q1, rfl⟩ := okWide_slice Tryd.underlying37 (hval 1 37 v1 rfl rfl)
  obtain ⟨L1, len1, num1, bit1, hw1, hs1, hl1, hm1, hn1, hob1, hwf1⟩ := open_rows Tryd.underlying37 k28 (by kernel_rfl) (by decide) (okWide_spot Tryd.underlying37 (hval 1 37 _ rfl rfl)) (by simpa [Value.cells] using h1)
  have hs1 : L1.slice 6 0 len1 none = some (.slice c1 l1 q1) := hs1
  obtain ⟨h, x, ob, hr, hx, hob⟩ := hz_runs len0 (rowAV [.int .u64, .int .u64, .int .u64, .int .u64, .int .u64, .int .u64, .int .u64, .int .u64, .int .u64, .int .u64] num0 bit0) len1 (rowAV [.int .i64, .int .u32, .bool, .int .u64, .int .u64, .int .u64] num1 bit1) (rows_u64 hwf0)
  have e0 : inpT [(1, L0), (2, L1)] [(0, tab)] 1 = some L0 := inpT_of rfl
  have e1 : inpT [(1, L0), (2, L1)] [(0, tab)] 2 = some L1 := inpT_of rfl
  exact run_lawG (W := W) (ρ := inpT [(1, L0), (2, L1)] [(0, tab)]) EHz_ok hr hx hob (heapRepT (heap := [(1, .arr 10 [.int .u64, .int .u64, .int .u64, .int .u64, .int .u64, .int .u64, .int .u64, .int .u64, .int .u64, .int .u64] true len0 (rowAV [.int .u64, .int .u64, .int .u64, .int .u64, .int .u64, .int .u64, .int .u64, .int .u64, .int .u64, .int .u64] num0 bit0)), (2, .arr 6 [.int .i64, .int .u32, .bool, .int .u64, .int .u64, .int .u64] true len1 (rowAV [.int .i64, .int .u32, .bool, .int .u64, .int .u64, .int .u64] num1 bit1))]) (ls := [(1, L0), (2, L1)]) (tabs := [(0, tab)]) (nxt := 3) rfl (by decide) rfl htab (rep_cons rfl rfl hob0 (rep_cons rfl rfl hob1 rep_nil))) (xs := [.slice c0 l0 q0, .slice c1 l1 q1])
    (by simp [denL, den, e0, hs0, e1, hs1]) (inpT_fresh (nxt := 3) rfl (Nat.le_refl _)) (inpT_glob (nxt := 3) rfl (by decide))

theorem hazardsHeld_met (os : Os) (args : Array Value) : laidMetH Tryd.prog [("ragpicker/words.fields", Rows.laid_ragpicker_words_fields)] ((World.doorLaid Tryd.prog 400 os).forCall (fun _ _ => 0) ⟨#[], args, []⟩).memory :=
  laidMetH_of_parts3 (fuel := 8) (laidMet_of_run' 8 (by kernel_rfl) (by kernel_rfl)) (by kernel_rfl) (by kernel_rfl)
set_option maxRecDepth 100000 in
theorem hazardsHeld_lifted (os : Os) (started : os.Started) (H : Type) (enc : TypeId × Value → H) :
    ReturnsInHanded {} Tryd.checked os 4 .any (fun w args => (Rows.hazardsHeldSpec.pre enc Tryd.prog Tryd.f4 [] false w args ∧ laidMetH Tryd.prog [("ragpicker/words.fields", Rows.laid_ragpicker_words_fields)] w) ∧ sizedMet enc Tryd.prog Tryd.f4 (OpenSpec.ofChange Rows.hazardsHeldSpec) false w args)
      (Rows.hazardsHeldSpec.post enc Tryd.prog Tryd.f4 false true false false) := by
  refine returnsInHanded_of_change_and (C := Tryd.checked) (X := fun w _ => laidMetH Tryd.prog [("ragpicker/words.fields", Rows.laid_ragpicker_words_fields)] w) (fun _ _ _ hh h => h.of_heap hh) hown started (by kernel_rfl) Tryd.func4
    (ChangeSpec.witness_shaped (enc := enc) (C := Tryd.checked) (os := os) (X := fun w _ => laidMetH Tryd.prog [("ragpicker/words.fields", Rows.laid_ragpicker_words_fields)] w) false (World.doorLaid Tryd.prog 400 os) #[.slice none 0 0, .slice none 0 0] 8 rfl (World.shaped_of_RefB (by kernel_rfl) (by kernel_rfl)) (by kernel_rfl) (by kernel_rfl) (by kernel_rfl) (hazardsHeld_met os _)) ?_
  intro W base args ds gs before hval0 hW _ _ hL _
  exact law_contractT Tryd.params4 hazardsHeld_runs hlaidOut (of_decide_eq_true (by kernel_rfl)) (by kernel_rfl) Tryd.underlying4 rfl
    (fun ds hl => by match ds, hl with | [d0, d1], _ => exact ⟨rfl, rfl, rfl⟩) W base args ds gs before hval0 hW (tabs_laid (by kernel_rfl) hazardsHeld_tabs hL)

theorem hazardsHeld_row : Rows.HazardsHeldSaid :=
  OpenClaim.holds_of_wide 4 Tryd.f4 rfl rfl rfl rfl rfl rfl rfl ⟨rfl, rfl, rfl, rfl, rfl⟩ rfl rfl rfl rfl rfl (by kernel_rfl) Tryd.func4 (by kernel_rfl)
    (of_decide_eq_true (by kernel_rfl)) (by unfold Func.isWrapper; first | (rw [if_pos (by decide +kernel)]; kernel_rfl) | (rw [if_neg (by decide +kernel)]; exact ⟨rfl, rfl⟩))
    (fun os started H enc _ => hazardsHeld_lifted os started H enc)

theorem hazardsHeld_holds : Rows.HazardsHeldCardSaid :=
  Claim7.holds_tied_plain_at .later [] [.data] true (true, "4e0bc994c6d343103b6ab8b907f10e6d685916657cae56a311d4d2d711378d4b") false hazardsHeld_row (fun _ h => by cases h) (by kernel_rfl) (fun _ h => by cases h) hazardsHeld_row_tie rfl ⟨rfl, rfl⟩ (by kernel_rfl) rfl
    (fun f fn hf hfn => by
      obtain rfl : f = 4 := Option.some.inj ((show Tryd.prog.funcNamed "ragpicker/ragpickerlaw16.HazardsHeld" = some 4 by kernel_rfl).symm.trans hf) |>.symm
      obtain rfl : fn = Tryd.f4 := (Option.some.inj (Tryd.func4.symm.trans hfn)).symm
      exact ⟨by kernel_rfl, fun j t ht => by
        rw [Tryd.params4] at ht
        have hm : t ∈ [22, 37] := by simpa using Array.mem_of_getElem? ht
        have hall : ([22, 37].all fun u => !Tryd.prog.wantsStandIn u) = true := by kernel_rfl
        exact (show Tryd.prog.wantsStandIn t = false by simpa using List.all_eq_true.1 hall t hm)⟩)
    (by kernel_rfl)

#print axioms hazardsHeld_holds
end Go.Proofs.YtljeiencnpnbkaaDoor
