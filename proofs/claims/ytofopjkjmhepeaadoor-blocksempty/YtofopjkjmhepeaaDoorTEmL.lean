/-
  For all inputs, BlocksEmpty returns true. No condition.
-/
import Derived.Test.YtofopjkjmhepeaaDoorTEm0
import Derived.Test.YtofopjkjmhepeaaDoorTEm1
import Derived.Test.YtofopjkjmhepeaaDoorTEm2
import Derived.Test.YtofopjkjmhepeaaDoorTEm3
import Derived.Test.YtofopjkjmhepeaaDoorTie
import Derived.Test.YtofopjkjmhepeaaDoorCards
import Derived.LaidMore
import Derived.ChangeMaps5
import Derived.OpenShut
import Derived.SevenTiedAt
set_option linter.unusedSimpArgs false
set_option linter.unusedVariables false
namespace Go.Proofs.YtofopjkjmhepeaaDoor
open Go.Ev Go.ChangeShapes Go.WideShapes Go.ChangeAt Go.RowKit
set_option maxRecDepth 100000
theorem em_runs (b : Int) (j : Bool) (a : Int) (rb : 0 ≤ b ∧ b < 256) (ra : 0 ≤ a ∧ a < 256) : Runs (emRun b j a) := by
  have eb : (IntKind.i64.wrap b).tmod 4 = b % 4 := by rw [i64w (by omega) (by omega), Int.tmod_eq_emod_of_nonneg rb.1]
  have ea0 : (IntKind.i64.wrap a).tmod 4 = a % 4 := by rw [i64w (by omega) (by omega), Int.tmod_eq_emod_of_nonneg ra.1]
  have ea1 : (IntKind.i64.wrap a).tmod 5 = a % 5 := by rw [i64w (by omega) (by omega), Int.tmod_eq_emod_of_nonneg ra.1]
  have ea2 : (IntKind.i64.wrap a).tmod 6 = a % 6 := by rw [i64w (by omega) (by omega), Int.tmod_eq_emod_of_nonneg ra.1]
  have ea3 : (IntKind.i64.wrap a).tmod 7 = a % 7 := by rw [i64w (by omega) (by omega), Int.tmod_eq_emod_of_nonneg ra.1]
  rcases (show b % 4 = 0 ∨ b % 4 = 1 ∨ b % 4 = 2 ∨ b % 4 = 3 by omega) with hb | hb | hb | hb <;> rw [hb] at eb
  · cases j with
    | false => exact ⟨_, _, _, e0f b a, .inl rfl, ob_cons (tabIs_self _) (ob_cons eb ob_nil)⟩
    | true =>
      rcases (show a % 4 = 0 ∨ a % 4 = 1 ∨ a % 4 = 2 ∨ a % 4 = 3 by omega) with ha | ha | ha | ha
      · exact ⟨_, _, _, e0t0 b a, .inl rfl, ob_cons (tabIs_self _) (ob_cons (by rw [ea0, ha]) (ob_cons eb ob_nil))⟩
      · exact ⟨_, _, _, e0t1 b a, .inl rfl, ob_cons (tabIs_self _) (ob_cons (by rw [ea0, ha]) (ob_cons eb ob_nil))⟩
      · exact ⟨_, _, _, e0t2 b a, .inl rfl, ob_cons (tabIs_self _) (ob_cons (by rw [ea0, ha]) (ob_cons eb ob_nil))⟩
      · exact ⟨_, _, _, e0t3 b a, .inl rfl, ob_cons (tabIs_self _) (ob_cons (by rw [ea0, ha]) (ob_cons eb ob_nil))⟩
  · cases j with
    | false => exact ⟨_, _, _, e1f b a, .inl rfl, ob_cons (tabIs_self _) (ob_cons eb ob_nil)⟩
    | true =>
      rcases (show a % 5 = 0 ∨ a % 5 = 1 ∨ a % 5 = 2 ∨ a % 5 = 3 ∨ a % 5 = 4 by omega) with ha | ha | ha | ha | ha
      · exact ⟨_, _, _, e1t0 b a, .inl rfl, ob_cons (tabIs_self _) (ob_cons (by rw [ea1, ha]) (ob_cons eb ob_nil))⟩
      · exact ⟨_, _, _, e1t1 b a, .inl rfl, ob_cons (tabIs_self _) (ob_cons (by rw [ea1, ha]) (ob_cons eb ob_nil))⟩
      · exact ⟨_, _, _, e1t2 b a, .inl rfl, ob_cons (tabIs_self _) (ob_cons (by rw [ea1, ha]) (ob_cons eb ob_nil))⟩
      · exact ⟨_, _, _, e1t3 b a, .inl rfl, ob_cons (tabIs_self _) (ob_cons (by rw [ea1, ha]) (ob_cons eb ob_nil))⟩
      · exact ⟨_, _, _, e1t4 b a, .inl rfl, ob_cons (tabIs_self _) (ob_cons (by rw [ea1, ha]) (ob_cons eb ob_nil))⟩
  · cases j with
    | false => exact ⟨_, _, _, e2f b a, .inl rfl, ob_cons (tabIs_self _) (ob_cons eb ob_nil)⟩
    | true =>
      rcases (show a % 6 = 0 ∨ a % 6 = 1 ∨ a % 6 = 2 ∨ a % 6 = 3 ∨ a % 6 = 4 ∨ a % 6 = 5 by omega) with ha | ha | ha | ha | ha | ha
      · exact ⟨_, _, _, e2t0 b a, .inl rfl, ob_cons (tabIs_self _) (ob_cons (by rw [ea2, ha]) (ob_cons eb ob_nil))⟩
      · exact ⟨_, _, _, e2t1 b a, .inl rfl, ob_cons (tabIs_self _) (ob_cons (by rw [ea2, ha]) (ob_cons eb ob_nil))⟩
      · exact ⟨_, _, _, e2t2 b a, .inl rfl, ob_cons (tabIs_self _) (ob_cons (by rw [ea2, ha]) (ob_cons eb ob_nil))⟩
      · exact ⟨_, _, _, e2t3 b a, .inl rfl, ob_cons (tabIs_self _) (ob_cons (by rw [ea2, ha]) (ob_cons eb ob_nil))⟩
      · exact ⟨_, _, _, e2t4 b a, .inl rfl, ob_cons (tabIs_self _) (ob_cons (by rw [ea2, ha]) (ob_cons eb ob_nil))⟩
      · exact ⟨_, _, _, e2t5 b a, .inl rfl, ob_cons (tabIs_self _) (ob_cons (by rw [ea2, ha]) (ob_cons eb ob_nil))⟩
  · cases j with
    | false => exact ⟨_, _, _, e3f b a, .inl rfl, ob_cons (tabIs_self _) (ob_cons eb ob_nil)⟩
    | true =>
      rcases (show a % 7 = 0 ∨ a % 7 = 1 ∨ a % 7 = 2 ∨ a % 7 = 3 ∨ a % 7 = 4 ∨ a % 7 = 5 ∨ a % 7 = 6 by omega) with ha | ha | ha | ha | ha | ha | ha
      · exact ⟨_, _, _, e3t0 b a, .inl rfl, ob_cons (tabIs_self _) (ob_cons (by rw [ea3, ha]) (ob_cons eb ob_nil))⟩
      · exact ⟨_, _, _, e3t1 b a, .inl rfl, ob_cons (tabIs_self _) (ob_cons (by rw [ea3, ha]) (ob_cons eb ob_nil))⟩
      · exact ⟨_, _, _, e3t2 b a, .inl rfl, ob_cons (tabIs_self _) (ob_cons (by rw [ea3, ha]) (ob_cons eb ob_nil))⟩
      · exact ⟨_, _, _, e3t3 b a, .inl rfl, ob_cons (tabIs_self _) (ob_cons (by rw [ea3, ha]) (ob_cons eb ob_nil))⟩
      · exact ⟨_, _, _, e3t4 b a, .inl rfl, ob_cons (tabIs_self _) (ob_cons (by rw [ea3, ha]) (ob_cons eb ob_nil))⟩
      · exact ⟨_, _, _, e3t5 b a, .inl rfl, ob_cons (tabIs_self _) (ob_cons (by rw [ea3, ha]) (ob_cons eb ob_nil))⟩
      · exact ⟨_, _, _, e3t6 b a, .inl rfl, ob_cons (tabIs_self _) (ob_cons (by rw [ea3, ha]) (ob_cons eb ob_nil))⟩
theorem hown : ownKnob Tryd.prog.godebug = none := by kernel_rfl
theorem hlaidOut : laidOutB Tryd.prog = true := by kernel_rfl
theorem blocksEmpty_tabs : TabsOk Tryd.prog [("ragpicker/words.fields", Rows.laid_ragpicker_words_fields)] [(0, tab)] := tabsOkB_ok (by kernel_rfl)
set_option maxRecDepth 100000 in
theorem blocksEmpty_runs : LawRunsT Tryd.prog 8 [5, 4, 5] [(0, tab)] := by
  intro H enc W base args ds p hval hA htab
  obtain ⟨v0, v1, v2, d0, d1, d2, p0, p1, p2, hargs, rfl, rfl, h0, h1, h2⟩ := trodAll_three (args := args.toArray) hA
  obtain rfl : args = [v0, v1, v2] := by simpa using congrArg Array.toList hargs
  obtain ⟨b, rfl, rb⟩ := okWide_num Tryd.underlying5 (hval 0 5 v0 rfl rfl)
  obtain ⟨j, rfl⟩ := okWide_bool Tryd.underlying4 (hval 1 4 v1 rfl rfl)
  obtain ⟨a, rfl, ra⟩ := okWide_num Tryd.underlying5 (hval 2 5 v2 rfl rfl)
  obtain ⟨h, x, ob, hr, hx, hob⟩ := em_runs b j a (u8_range rb) (u8_range ra)
  exact run_lawG (W := W) (ρ := inpT [] [(0, tab)]) EE_ok hr hx hob (heapRepT (heap := []) (ls := []) (tabs := [(0, tab)]) (nxt := 1) rfl (by decide) rfl htab rep_nil) (xs := [.int .u8 b, .bool j, .int .u8 a])
    (by simp [denL, den]) (inpT_fresh (nxt := 1) rfl (Nat.le_refl _)) (inpT_glob (nxt := 1) rfl (by decide))

theorem blocksEmpty_met (os : Os) (args : Array Value) : laidMetH Tryd.prog [("ragpicker/words.fields", Rows.laid_ragpicker_words_fields)] ((World.doorLaid Tryd.prog 400 os).forCall (fun _ _ => 0) ⟨#[], args, []⟩).memory :=
  laidMetH_of_parts3 (fuel := 8) (laidMet_of_run' 8 (by kernel_rfl) (by kernel_rfl)) (by kernel_rfl) (by kernel_rfl)
set_option maxRecDepth 100000 in
theorem blocksEmpty_lifted (os : Os) (started : os.Started) (H : Type) (enc : TypeId × Value → H) :
    ReturnsInHanded {} Tryd.checked os 8 .any (fun w args => (Rows.blocksEmptySpec.pre enc Tryd.prog Tryd.f8 [] false w args ∧ laidMetH Tryd.prog [("ragpicker/words.fields", Rows.laid_ragpicker_words_fields)] w) ∧ sizedMet enc Tryd.prog Tryd.f8 (OpenSpec.ofChange Rows.blocksEmptySpec) false w args)
      (Rows.blocksEmptySpec.post enc Tryd.prog Tryd.f8 false true false false) := by
  refine returnsInHanded_of_change_and (C := Tryd.checked) (X := fun w _ => laidMetH Tryd.prog [("ragpicker/words.fields", Rows.laid_ragpicker_words_fields)] w) (fun _ _ _ hh h => h.of_heap hh) hown started (by kernel_rfl) Tryd.func8
    (ChangeSpec.witness_shaped (enc := enc) (C := Tryd.checked) (os := os) (X := fun w _ => laidMetH Tryd.prog [("ragpicker/words.fields", Rows.laid_ragpicker_words_fields)] w) false (World.doorLaid Tryd.prog 400 os) #[.int .u8 0, .bool false, .int .u8 0] 8 rfl (World.shaped_of_RefB (by kernel_rfl) (by kernel_rfl)) (by kernel_rfl) (by kernel_rfl) (by kernel_rfl) (blocksEmpty_met os _)) ?_
  intro W base args ds gs before hval0 hW _ _ hL _
  exact law_contractT Tryd.params8 blocksEmpty_runs hlaidOut (of_decide_eq_true (by kernel_rfl)) (by kernel_rfl) Tryd.underlying4 rfl
    (fun ds hl => by match ds, hl with | [d0, d1, d2], _ => exact ⟨rfl, rfl, rfl⟩) W base args ds gs before hval0 hW (tabs_laid (by kernel_rfl) blocksEmpty_tabs hL)

theorem blocksEmpty_row : Rows.BlocksEmptySaid :=
  OpenClaim.holds_of_wide 8 Tryd.f8 rfl rfl rfl rfl rfl rfl rfl ⟨rfl, rfl, rfl, rfl, rfl⟩ rfl rfl rfl rfl rfl (by kernel_rfl) Tryd.func8 (by kernel_rfl)
    (of_decide_eq_true (by kernel_rfl)) (by unfold Func.isWrapper; first | (rw [if_pos (by decide +kernel)]; kernel_rfl) | (rw [if_neg (by decide +kernel)]; exact ⟨rfl, rfl⟩))
    (fun os started H enc _ => blocksEmpty_lifted os started H enc)

theorem blocksEmpty_holds : Rows.BlocksEmptyCardSaid :=
  Claim7.holds_tied_plain_at .later [] [.data] true (true, "6edbeff121bf7264b12745c36a32a6227e38a7cf0433ee1fb0e39c30d03aa970") false blocksEmpty_row (fun _ h => by cases h) (by kernel_rfl) (fun _ h => by cases h) blocksEmpty_row_tie rfl ⟨rfl, rfl⟩ (by kernel_rfl) rfl
    (fun f fn hf hfn => by
      obtain rfl : f = 8 := Option.some.inj ((show Tryd.prog.funcNamed "ragpicker/ragpickerlaw11.BlocksEmpty" = some 8 by kernel_rfl).symm.trans hf) |>.symm
      obtain rfl : fn = Tryd.f8 := (Option.some.inj (Tryd.func8.symm.trans hfn)).symm
      exact ⟨by kernel_rfl, fun j t ht => by
        rw [Tryd.params8] at ht
        have hm : t ∈ [5, 4, 5] := by simpa using Array.mem_of_getElem? ht
        have hall : ([5, 4, 5].all fun u => !Tryd.prog.wantsStandIn u) = true := by kernel_rfl
        exact (show Tryd.prog.wantsStandIn t = false by simpa using List.all_eq_true.1 hall t hm)⟩)
    (by kernel_rfl)

#print axioms blocksEmpty_holds
end Go.Proofs.YtofopjkjmhepeaaDoor
