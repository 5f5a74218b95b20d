/-
  For all inputs, BlocksVoid returns true; its arguments read as before. No condition.
-/
import Derived.Test.YtofopjkjmhepeaaDoorTbvDef
import Derived.Test.YtofopjkjmhepeaaDoorTie
import Derived.Test.YtofopjkjmhepeaaDoorCards
import Derived.LaidMore
import Derived.ChangeMaps5
import Derived.OpenShut
import Derived.SevenTiedAt
set_option linter.unusedSimpArgs false
set_option linter.unusedVariables false
namespace Go.Proofs.YtofopjkjmhepeaaDoor
open Go.Ev Go.ChangeShapes Go.WideShapes Go.ChangeAt Go.RowKit
set_option maxRecDepth 100000
section
variable (m : Nat) (f : Nat → Nat → AV) 
theorem bv_1 : (callF Ebv 3000 7 [AV.ss 4 1 0 m none] ⟨(tabsH [(0, tab)] ++ [(1, AO.arr 4 wSh true m f)]), 2, gnm 0, [Hint.b true], [], [], false⟩).map (fun x => (x.1, x.2.ob, noneIn (tabsH [(0, tab)] ++ [(1, AO.arr 4 wSh true m f)]) x.2.wr)) =
 some (AV.bool true, [TabIs tab (tabF tab),
 decide (Int.ofNat m > 300) = true], true) := by kernel_rfl
theorem bv_2 : (callF Ebv 3000 7 [AV.ss 4 1 0 m none] ⟨(tabsH [(0, tab)] ++ [(1, AO.arr 4 wSh true m f)]), 2, gnm 0, [Hint.b false, Hint.b true], [], [], false⟩).map (fun x => (x.1, x.2.ob, noneIn (tabsH [(0, tab)] ++ [(1, AO.arr 4 wSh true m f)]) x.2.wr)) =
 some (AV.bool true, [TabIs tab (tabF tab),
 ((msN (bgW f) m).st == (msN (bgW f) m).st) = true,
 m ≤ m,
 m ≤ 300,
 ∀ (i : Nat), i < m → 0 ≤ avInt (f i 0),
 decide (Int.ofNat m > 300) = false], true) := by kernel_rfl
theorem bv_runs (hr : ∀ i, i < m → 0 ≤ avInt (f i 0))  : Runs (bvRun m f ) := by
  cases h1 : (decide (Int.ofNat m > 300)) with
  | true =>
    have g1 := of_decide_eq_true h1
    try simp only [Int.ofNat_eq_natCast, ge_iff_le, gt_iff_lt, Int.not_lt, Int.not_le] at g1
    refine ⟨_, _, _, bv_1 m f , .inl rfl, (ob_cons ?_ (ob_cons h1 ob_nil))⟩
    ·
      first | trivial | exact hr | exact tabIs_self _ | exact eq_no | exact beq_self_eq_true _ | omega
  | false =>
    have g1 := of_decide_eq_false h1
    try simp only [Int.ofNat_eq_natCast, ge_iff_le, gt_iff_lt, Int.not_lt, Int.not_le] at g1
    refine ⟨_, _, _, bv_2 m f , .inl rfl, (ob_cons ?_ (ob_cons ?_ (ob_cons (Nat.le_refl _) (ob_cons ?_ (ob_cons ?_ (ob_cons h1 ob_nil))))))⟩
    ·
      first | trivial | exact hr | exact tabIs_self _ | exact eq_no | exact beq_self_eq_true _ | omega
    ·
      first | (apply Nat.ble_eq_true_of_le; omega) | (simp [Nat.blt_eq]; omega) | exact hr | exact tabIs_self _ | exact eq_no | exact beq_self_eq_true _ | omega
    ·
      first | exact Nat.le_refl _ | omega | exact hr | exact tabIs_self _ | exact eq_no | exact beq_self_eq_true _ | omega
    ·
      first | exact fun _ => rfl | exact hr | exact tabIs_self _ | exact eq_no | exact beq_self_eq_true _ | omega
end
theorem hown : ownKnob Tryd.prog.godebug = none := by kernel_rfl
theorem hlaidOut : laidOutB Tryd.prog = true := by kernel_rfl
theorem k109 : flatK Tryd.prog 4 109 = some wSh := by kernel_rfl
theorem blocksVoid_tabs : TabsOk Tryd.prog [("ragpicker/words.fields", Rows.laid_ragpicker_words_fields)] [(0, tab)] := tabsOkB_ok (by kernel_rfl)
set_option maxRecDepth 100000 in
theorem blocksVoid_runs : LawRunsT Tryd.prog 7 [47] [(0, tab)] := by
  intro H enc W base args ds p hval hA htab
  obtain ⟨v0, d0, hargs, rfl, h0⟩ := trodAll_one (args := args.toArray) hA
  obtain rfl : args = [v0] := by simpa using congrArg Array.toList hargs
  obtain ⟨fuel0, h0⟩ := h0
  obtain ⟨c0, l0, q0, rfl⟩ := okWide_slice Tryd.underlying47 (hval 0 47 v0 rfl rfl)
  obtain ⟨L0, len0, num0, bit0, hw0, hs0, hl0, hm0, hn0, hob0, hwf0⟩ := open_rows Tryd.underlying47 k109 (by kernel_rfl) (by decide) (okWide_spot Tryd.underlying47 (hval 0 47 _ rfl rfl)) (by simpa [Value.cells] using h0)
  have hs0 : L0.slice 4 0 len0 none = some (.slice c0 l0 q0) := hs0
  obtain ⟨h, x, ob, hr, hx, hob⟩ := bv_runs len0 (rowAV wSh num0 bit0) (fun i hi => (u8_range (hwf0 i hi 0 .u8 rfl)).1)
  have e0 : inpT [(1, L0)] [(0, tab)] 1 = some L0 := inpT_of rfl
  exact run_lawG (W := W) (ρ := inpT [(1, L0)] [(0, tab)]) Ebv_ok hr hx hob (heapRepT (heap := [(1, .arr 4 wSh true len0 (rowAV wSh num0 bit0))]) (ls := [(1, L0)]) (tabs := [(0, tab)]) (nxt := 2) rfl (by decide) rfl htab (rep_cons rfl rfl hob0 rep_nil)) (xs := [.slice c0 l0 q0])
    (by simp [denL, den, e0, hs0]) (inpT_fresh (nxt := 2) rfl (Nat.le_refl _)) (inpT_glob (nxt := 2) rfl (by decide))

theorem blocksVoid_met (os : Os) (args : Array Value) : laidMetH Tryd.prog [("ragpicker/words.fields", Rows.laid_ragpicker_words_fields)] ((World.doorLaid Tryd.prog 400 os).forCall (fun _ _ => 0) ⟨#[], args, []⟩).memory :=
  laidMetH_of_parts3 (fuel := 8) (laidMet_of_run' 8 (by kernel_rfl) (by kernel_rfl)) (by kernel_rfl) (by kernel_rfl)
set_option maxRecDepth 100000 in
theorem blocksVoid_lifted (os : Os) (started : os.Started) (H : Type) (enc : TypeId × Value → H) :
    ReturnsInHanded {} Tryd.checked os 7 .any (fun w args => (Rows.blocksVoidSpec.pre enc Tryd.prog Tryd.f7 [] false w args ∧ laidMetH Tryd.prog [("ragpicker/words.fields", Rows.laid_ragpicker_words_fields)] w) ∧ sizedMet enc Tryd.prog Tryd.f7 (OpenSpec.ofChange Rows.blocksVoidSpec) false w args)
      (Rows.blocksVoidSpec.post enc Tryd.prog Tryd.f7 false true false false) := by
  refine returnsInHanded_of_change_and (C := Tryd.checked) (X := fun w _ => laidMetH Tryd.prog [("ragpicker/words.fields", Rows.laid_ragpicker_words_fields)] w) (fun _ _ _ hh h => h.of_heap hh) hown started (by kernel_rfl) Tryd.func7
    (ChangeSpec.witness_shaped (enc := enc) (C := Tryd.checked) (os := os) (X := fun w _ => laidMetH Tryd.prog [("ragpicker/words.fields", Rows.laid_ragpicker_words_fields)] w) false (World.doorLaid Tryd.prog 400 os) #[.slice none 0 0] 8 rfl (World.shaped_of_RefB (by kernel_rfl) (by kernel_rfl)) (by kernel_rfl) (by kernel_rfl) (by kernel_rfl) (blocksVoid_met os _)) ?_
  intro W base args ds gs before hval0 hW _ _ hL _
  exact law_contractT Tryd.params7 blocksVoid_runs hlaidOut (of_decide_eq_true (by kernel_rfl)) (by kernel_rfl) Tryd.underlying4 rfl
    (fun ds hl => by match ds, hl with | [d0], _ => exact ⟨rfl, rfl, rfl⟩) W base args ds gs before hval0 hW (tabs_laid (by kernel_rfl) blocksVoid_tabs hL)

theorem blocksVoid_row : Rows.BlocksVoidSaid :=
  OpenClaim.holds_of_wide 7 Tryd.f7 rfl rfl rfl rfl rfl rfl rfl ⟨rfl, rfl, rfl, rfl, rfl⟩ rfl rfl rfl rfl rfl (by kernel_rfl) Tryd.func7 (by kernel_rfl)
    (of_decide_eq_true (by kernel_rfl)) (by unfold Func.isWrapper; first | (rw [if_pos (by decide +kernel)]; kernel_rfl) | (rw [if_neg (by decide +kernel)]; exact ⟨rfl, rfl⟩))
    (fun os started H enc _ => blocksVoid_lifted os started H enc)

theorem blocksVoid_holds : Rows.BlocksVoidCardSaid :=
  Claim7.holds_tied_plain_at .later [] [.data] true (true, "6edbeff121bf7264b12745c36a32a6227e38a7cf0433ee1fb0e39c30d03aa970") false blocksVoid_row (fun _ h => by cases h) (by kernel_rfl) (fun _ h => by cases h) blocksVoid_row_tie rfl ⟨rfl, rfl⟩ (by kernel_rfl) rfl
    (fun f fn hf hfn => by
      obtain rfl : f = 7 := Option.some.inj ((show Tryd.prog.funcNamed "ragpicker/ragpickerlaw11.BlocksVoid" = some 7 by kernel_rfl).symm.trans hf) |>.symm
      obtain rfl : fn = Tryd.f7 := (Option.some.inj (Tryd.func7.symm.trans hfn)).symm
      exact ⟨by kernel_rfl, fun j t ht => by
        rw [Tryd.params7] at ht
        have hm : t ∈ [47] := by simpa using Array.mem_of_getElem? ht
        have hall : ([47].all fun u => !Tryd.prog.wantsStandIn u) = true := by kernel_rfl
        exact (show Tryd.prog.wantsStandIn t = false by simpa using List.all_eq_true.1 hall t hm)⟩)
    (by kernel_rfl)

#print axioms blocksVoid_holds
end Go.Proofs.YtofopjkjmhepeaaDoor
