/-
  For all inputs, AllocsVoid returns true; its arguments read as before. No condition.
-/
import Derived.Test.YtmhjecenmgbpeaaDoorDavDef
import Derived.Test.YtmhjecenmgbpeaaDoorTie
import Derived.Test.YtmhjecenmgbpeaaDoorCards
import Derived.LaidMore
import Derived.ChangeMaps5
import Derived.OpenShut
import Derived.SevenTiedAt
set_option linter.unusedSimpArgs false
set_option linter.unusedVariables false
namespace Go.Proofs.YtmhjecenmgbpeaaDoor
open Go.Ev Go.ChangeShapes Go.WideShapes Go.ChangeAt Go.RowKit
set_option maxRecDepth 100000
section
variable (m : Nat) (f : Nat → Nat → AV) (s : Int)
theorem av_1 : (callF Eav 3000 5 [AV.ss 4 1 0 m none, AV.sym IntKind.i64 s] ⟨(tabsH [(1, tab)] ++ [(1, AO.arr 4 wSh true m f)]), 2, gnm 0, [Hint.b true], [], [], false⟩).map (fun x => (x.1, x.2.ob, noneIn (tabsH [(1, tab)] ++ [(1, AO.arr 4 wSh true m f)]) x.2.wr)) =
 some (AV.bool true, [TabIs tab (tabF tab),
 decide (Int.ofNat m > 300) = true], true) := by kernel_rfl
theorem av_2 : (callF Eav 3000 5 [AV.ss 4 1 0 m none, AV.sym IntKind.i64 s] ⟨(tabsH [(1, tab)] ++ [(1, AO.arr 4 wSh true m f)]), 2, gnm 0, [Hint.b false, Hint.b true, Hint.b false, Hint.b false, Hint.b true], [], [], false⟩).map (fun x => (x.1, x.2.ob, noneIn (tabsH [(1, tab)] ++ [(1, AO.arr 4 wSh true m f)]) x.2.wr)) =
 some (AV.bool true, [TabIs tab (tabF tab),
 ((msN (bgW f) m).st == (msN (bgW f) m).st) = true,
 decide (s ≥ 0) = false,
 decide (s ≥ 0) = false,
 decide (s < 0) = true,
 m ≤ m,
 m ≤ 300,
 ∀ (i : Nat), i < m → 0 ≤ avInt (f i 0),
 decide (Int.ofNat m > 300) = false], true) := by kernel_rfl
theorem av_3 : (callF Eav 3000 5 [AV.ss 4 1 0 m none, AV.sym IntKind.i64 s] ⟨(tabsH [(1, tab)] ++ [(1, AO.arr 4 wSh true m f)]), 2, gnm 0, [Hint.b false, Hint.b false, Hint.b true, Hint.b true, Hint.b true, Hint.b true, Hint.b true, Hint.b true], [], [], false⟩).map (fun x => (x.1, x.2.ob, noneIn (tabsH [(1, tab)] ++ [(1, AO.arr 4 wSh true m f)]) x.2.wr)) =
 some (AV.bool true, [TabIs tab (tabF tab),
 ((msN (bgW f) m).st == (msN (bgW f) m).st) = true,
 (!decide (s < 256)) = true,
 decide (s ≥ 0) = true,
 (!decide (s < 256)) = true,
 decide (s ≥ 0) = true,
 decide (s > 255) = true,
 decide (s < 0) = false,
 m ≤ m,
 m ≤ 300,
 ∀ (i : Nat), i < m → 0 ≤ avInt (f i 0),
 decide (Int.ofNat m > 300) = false], true) := by kernel_rfl
theorem av_4 : (callF Eav 3000 5 [AV.ss 4 1 0 m none, AV.sym IntKind.i64 s] ⟨(tabsH [(1, tab)] ++ [(1, AO.arr 4 wSh true m f)]), 2, gnm 0, [Hint.b false, Hint.b false, Hint.b false, Hint.b true], [], [], false⟩).map (fun x => (x.1, x.2.ob, noneIn (tabsH [(1, tab)] ++ [(1, AO.arr 4 wSh true m f)]) x.2.wr)) =
 some (AV.bool true, [TabIs tab (tabF tab),
 ((msN (bgW f) m).st == (msN (bgW f) m).st) = true,
 decide (s > 255) = false,
 decide (s < 0) = false,
 m ≤ m,
 m ≤ 300,
 ∀ (i : Nat), i < m → 0 ≤ avInt (f i 0),
 decide (Int.ofNat m > 300) = false], true) := by kernel_rfl
theorem av_runs (hr : ∀ i, i < m → 0 ≤ avInt (f i 0)) (rs : -9223372036854775808 ≤ s ∧ s < 9223372036854775808) : Runs (avRun m f s) := by
  cases h1 : (decide (Int.ofNat m > 300)) with
  | true =>
    have g1 := of_decide_eq_true h1
    try simp only [Int.ofNat_eq_natCast, ge_iff_le, gt_iff_lt, Int.not_lt, Int.not_le] at g1
    refine ⟨_, _, _, av_1 m f s, .inl rfl, (ob_cons (tabIs_self _) (ob_cons h1 ob_nil))⟩
  | false =>
    have g1 := of_decide_eq_false h1
    try simp only [Int.ofNat_eq_natCast, ge_iff_le, gt_iff_lt, Int.not_lt, Int.not_le] at g1
    cases h2 : (decide (s < 0)) with
    | true =>
      have g2 := of_decide_eq_true h2
      try simp only [Int.ofNat_eq_natCast, ge_iff_le, gt_iff_lt, Int.not_lt, Int.not_le] at g2
      refine ⟨_, _, _, av_2 m f s, .inl rfl, (ob_cons (tabIs_self _) (ob_cons ?_ (ob_cons ?_ (ob_cons ?_ (ob_cons h2 (ob_cons (Nat.le_refl _) (ob_cons ?_ (ob_cons ?_ (ob_cons h1 ob_nil)))))))))⟩
      ·
        first | (apply Nat.ble_eq_true_of_le; omega) | (simp [Nat.blt_eq]; omega) | exact hr | exact tabIs_self _ | exact eq_no | exact beq_self_eq_true _ | omega
      ·
        first | (apply Nat.ble_eq_true_of_le; omega) | (simp [Nat.blt_eq]; omega) | exact hr | exact tabIs_self _ | exact eq_no | exact beq_self_eq_true _ | omega
      ·
        first | (apply Nat.ble_eq_true_of_le; omega) | (simp [Nat.blt_eq]; omega) | exact hr | exact tabIs_self _ | exact eq_no | exact beq_self_eq_true _ | omega
      ·
        first | exact Nat.le_refl _ | omega | exact hr | exact tabIs_self _ | exact eq_no | exact beq_self_eq_true _ | omega
      ·
        first | exact fun _ => rfl | exact hr | exact tabIs_self _ | exact eq_no | exact beq_self_eq_true _ | omega
    | false =>
      have g2 := of_decide_eq_false h2
      try simp only [Int.ofNat_eq_natCast, ge_iff_le, gt_iff_lt, Int.not_lt, Int.not_le] at g2
      cases h3 : (decide (s > 255)) with
      | true =>
        have g3 := of_decide_eq_true h3
        try simp only [Int.ofNat_eq_natCast, ge_iff_le, gt_iff_lt, Int.not_lt, Int.not_le] at g3
        refine ⟨_, _, _, av_3 m f s, .inl rfl, (ob_cons (tabIs_self _) (ob_cons ?_ (ob_cons ?_ (ob_cons ?_ (ob_cons ?_ (ob_cons ?_ (ob_cons h3 (ob_cons h2 (ob_cons (Nat.le_refl _) (ob_cons ?_ (ob_cons ?_ (ob_cons h1 ob_nil))))))))))))⟩
        ·
          first | (apply Nat.ble_eq_true_of_le; omega) | (simp [Nat.blt_eq]; omega) | exact hr | exact tabIs_self _ | exact eq_no | exact beq_self_eq_true _ | omega
        ·
          first | (apply Nat.ble_eq_true_of_le; omega) | (simp [Nat.blt_eq]; omega) | exact hr | exact tabIs_self _ | exact eq_no | exact beq_self_eq_true _ | omega
        ·
          first | (apply Nat.ble_eq_true_of_le; omega) | (simp [Nat.blt_eq]; omega) | exact hr | exact tabIs_self _ | exact eq_no | exact beq_self_eq_true _ | omega
        ·
          first | (apply Nat.ble_eq_true_of_le; omega) | (simp [Nat.blt_eq]; omega) | exact hr | exact tabIs_self _ | exact eq_no | exact beq_self_eq_true _ | omega
        ·
          first | (apply Nat.ble_eq_true_of_le; omega) | (simp [Nat.blt_eq]; omega) | exact hr | exact tabIs_self _ | exact eq_no | exact beq_self_eq_true _ | omega
        ·
          first | exact Nat.le_refl _ | omega | exact hr | exact tabIs_self _ | exact eq_no | exact beq_self_eq_true _ | omega
        ·
          first | exact fun _ => rfl | exact hr | exact tabIs_self _ | exact eq_no | exact beq_self_eq_true _ | omega
      | false =>
        have g3 := of_decide_eq_false h3
        try simp only [Int.ofNat_eq_natCast, ge_iff_le, gt_iff_lt, Int.not_lt, Int.not_le] at g3
        refine ⟨_, _, _, av_4 m f s, .inl rfl, (ob_cons (tabIs_self _) (ob_cons ?_ (ob_cons h3 (ob_cons h2 (ob_cons (Nat.le_refl _) (ob_cons ?_ (ob_cons ?_ (ob_cons h1 ob_nil))))))))⟩
        ·
          first | (apply Nat.ble_eq_true_of_le; omega) | (simp [Nat.blt_eq]; omega) | exact hr | exact tabIs_self _ | exact eq_no | exact beq_self_eq_true _ | omega
        ·
          first | exact Nat.le_refl _ | omega | exact hr | exact tabIs_self _ | exact eq_no | exact beq_self_eq_true _ | omega
        ·
          first | exact fun _ => rfl | exact hr | exact tabIs_self _ | exact eq_no | exact beq_self_eq_true _ | omega
end
theorem hown : ownKnob Tryd.prog.godebug = none := by kernel_rfl
theorem hlaidOut : laidOutB Tryd.prog = true := by kernel_rfl
theorem k147 : flatK Tryd.prog 4 147 = some wSh := by kernel_rfl
theorem allocsVoid_tabs : TabsOk Tryd.prog [("ragpicker/words.fields", Rows.laid_ragpicker_words_fields)] [(1, tab)] := tabsOkB_ok (by kernel_rfl)
set_option maxRecDepth 100000 in
theorem allocsVoid_runs : LawRunsT Tryd.prog 5 [56, 3] [(1, tab)] := by
  intro H enc W base args ds p hval hA htab
  obtain ⟨v0, v1, d0, d1, p0, p1, hargs, rfl, rfl, h0, h1⟩ := trodAll_two (args := args.toArray) hA
  obtain rfl : args = [v0, v1] := by simpa using congrArg Array.toList hargs
  obtain ⟨fuel0, h0⟩ := h0
  obtain ⟨c0, l0, q0, rfl⟩ := okWide_slice Tryd.underlying56 (hval 0 56 v0 rfl rfl)
  obtain ⟨L0, len0, num0, bit0, hw0, hs0, hl0, hm0, hn0, hob0, hwf0⟩ := open_rows Tryd.underlying56 k147 (by kernel_rfl) (by decide) (okWide_spot Tryd.underlying56 (hval 0 56 _ rfl rfl)) (by simpa [Value.cells] using h0)
  have hs0 : L0.slice 4 0 len0 none = some (.slice c0 l0 q0) := hs0
  obtain ⟨s, rfl, rs⟩ := okWide_num Tryd.underlying3 (hval 1 3 v1 rfl rfl)
  obtain ⟨h, x, ob, hr, hx, hob⟩ := av_runs len0 (rowAV wSh num0 bit0) s (fun i hi => (u8_range (hwf0 i hi 0 .u8 rfl)).1) (i64_range rs)
  have e0 : inpT [(1, L0)] [(1, tab)] 1 = some L0 := inpT_of rfl
  exact run_lawG (W := W) (ρ := inpT [(1, L0)] [(1, tab)]) Eav_ok hr hx hob (heapRepT (heap := [(1, .arr 4 wSh true len0 (rowAV wSh num0 bit0))]) (ls := [(1, L0)]) (tabs := [(1, tab)]) (nxt := 2) rfl (by decide) rfl htab (rep_cons rfl rfl hob0 rep_nil)) (xs := [.slice c0 l0 q0, .int .i64 s])
    (by simp [denL, den, e0, hs0]) (inpT_fresh (nxt := 2) rfl (Nat.le_refl _)) (inpT_glob (nxt := 2) rfl (by decide))

theorem allocsVoid_met (os : Os) (args : Array Value) : laidMetH Tryd.prog [("ragpicker/words.fields", Rows.laid_ragpicker_words_fields)] ((World.doorLaid Tryd.prog 400 os).forCall (fun _ _ => 0) ⟨#[], args, []⟩).memory :=
  laidMetH_of_parts3 (fuel := 8) (laidMet_of_run' 8 (by kernel_rfl) (by kernel_rfl)) (by kernel_rfl) (by kernel_rfl)
set_option maxRecDepth 100000 in
theorem allocsVoid_lifted (os : Os) (started : os.Started) (H : Type) (enc : TypeId × Value → H) :
    ReturnsInHanded {} Tryd.checked os 5 .any (fun w args => (Rows.allocsVoidSpec.pre enc Tryd.prog Tryd.f5 [] false w args ∧ laidMetH Tryd.prog [("ragpicker/words.fields", Rows.laid_ragpicker_words_fields)] w) ∧ sizedMet enc Tryd.prog Tryd.f5 (OpenSpec.ofChange Rows.allocsVoidSpec) false w args)
      (Rows.allocsVoidSpec.post enc Tryd.prog Tryd.f5 false true false false) := by
  refine returnsInHanded_of_change_and (C := Tryd.checked) (X := fun w _ => laidMetH Tryd.prog [("ragpicker/words.fields", Rows.laid_ragpicker_words_fields)] w) (fun _ _ _ hh h => h.of_heap hh) hown started (by kernel_rfl) Tryd.func5
    (ChangeSpec.witness_shaped (enc := enc) (C := Tryd.checked) (os := os) (X := fun w _ => laidMetH Tryd.prog [("ragpicker/words.fields", Rows.laid_ragpicker_words_fields)] w) false (World.doorLaid Tryd.prog 400 os) #[.slice none 0 0, .int .i64 0] 8 rfl (World.shaped_of_RefB (by kernel_rfl) (by kernel_rfl)) (by kernel_rfl) (by kernel_rfl) (by kernel_rfl) (allocsVoid_met os _)) ?_
  intro W base args ds gs before hval0 hW _ _ hL _
  exact law_contractT Tryd.params5 allocsVoid_runs hlaidOut (of_decide_eq_true (by kernel_rfl)) (by kernel_rfl) Tryd.underlying4 rfl
    (fun ds hl => by match ds, hl with | [d0, d1], _ => exact ⟨rfl, rfl, rfl⟩) W base args ds gs before hval0 hW (tabs_laid (by kernel_rfl) allocsVoid_tabs hL)

theorem allocsVoid_row : Rows.AllocsVoidSaid :=
  OpenClaim.holds_of_wide 5 Tryd.f5 rfl rfl rfl rfl rfl rfl rfl ⟨rfl, rfl, rfl, rfl, rfl⟩ rfl rfl rfl rfl rfl (by kernel_rfl) Tryd.func5 (by kernel_rfl)
    (of_decide_eq_true (by kernel_rfl)) (by unfold Func.isWrapper; first | (rw [if_pos (by decide +kernel)]; kernel_rfl) | (rw [if_neg (by decide +kernel)]; exact ⟨rfl, rfl⟩))
    (fun os started H enc _ => allocsVoid_lifted os started H enc)

theorem allocsVoid_holds : Rows.AllocsVoidCardSaid :=
  Claim7.holds_tied_plain_at .later [] [.data] true (true, "ef2eaec28fe1a934e571bfe973e4cc9daa69c60473e0ffa5b6323df8e3a6cc3b") true allocsVoid_row (fun _ h => by cases h) (by kernel_rfl) (fun _ h => by cases h) allocsVoid_row_tie rfl ⟨rfl, rfl⟩ (by kernel_rfl) rfl
    (fun f fn hf hfn => by
      obtain rfl : f = 5 := Option.some.inj ((show Tryd.prog.funcNamed "ragpicker/ragpickerlaw08.AllocsVoid" = some 5 by kernel_rfl).symm.trans hf) |>.symm
      obtain rfl : fn = Tryd.f5 := (Option.some.inj (Tryd.func5.symm.trans hfn)).symm
      exact ⟨by kernel_rfl, fun j t ht => by
        rw [Tryd.params5] at ht
        have hm : t ∈ [56, 3] := by simpa using Array.mem_of_getElem? ht
        have hall : ([56, 3].all fun u => !Tryd.prog.wantsStandIn u) = true := by kernel_rfl
        exact (show Tryd.prog.wantsStandIn t = false by simpa using List.all_eq_true.1 hall t hm)⟩)
    (by kernel_rfl)

#print axioms allocsVoid_holds
end Go.Proofs.YtmhjecenmgbpeaaDoor
