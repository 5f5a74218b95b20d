/-
  For all inputs, TablesInside returns true. No condition.
-/
import Derived.Test.YtmhjecenmgbpeaaDoorDInDef
import Derived.Test.YtmhjecenmgbpeaaDoorTie
import Derived.Test.YtmhjecenmgbpeaaDoorCards
import Derived.LaidMore
import Derived.ChangeMaps5
import Derived.OpenShut
import Derived.SevenTiedAt
set_option linter.unusedSimpArgs false
set_option linter.unusedVariables false
namespace Go.Proofs.YtmhjecenmgbpeaaDoor
open Go.Ev Go.ChangeShapes Go.WideShapes Go.ChangeAt Go.RowKit
set_option maxRecDepth 100000
noncomputable def inRun (owner flag : Int) (h : List Hint) : Option (AV × List Prop × Bool) := (callF EI 5000 7 [.sym .u32 owner, .sym .u64 flag] ⟨tabsH [(1, tab)], 1, gnm 0, h, [], [], true⟩).map (fun x => (x.1, x.2.ob, noneIn (tabsH [(1, tab)]) x.2.wr))
theorem in_run (owner flag : Int) : (callF EI 5000 7 [.sym .u32 owner, .sym .u64 flag] ⟨tabsH [(1, tab)], 1, gnm 0, [.k 0, .b false, .k 5, .b false, .k 0, .b false, .k 1, .b false, .k 0, .b false, .k 0, .b false], [], [], true⟩).map (fun x => (x.1, x.2.ob, noneIn (tabsH [(1, tab)]) x.2.wr)) = some (.bool true, [TabIs tab (tabF tab),
 (IntKind.u64.wrap (IntKind.u64.wrap (IntKind.i64.wrap owner) + 1) == 0) = false,
 (flag != flag) = false,
 (IntKind.u64.wrap (IntKind.u64.wrap (IntKind.i64.wrap owner) + 1) != IntKind.u64.wrap (IntKind.u64.wrap owner + 1)) = false,
 (IntKind.u64.wrap (IntKind.u64.wrap (IntKind.i64.wrap owner) + 1) == 0) = false,
 (IntKind.u64.wrap (IntKind.u64.wrap (IntKind.i64.wrap owner) + 1) == 0) = false,
 decide (IntKind.i64.wrap owner < 0) = false], true) := by kernel_rfl
theorem in_runs (owner flag : Int) (h0 : 0 ≤ owner ∧ owner < 4294967296) (h1 : 0 ≤ flag ∧ flag < 18446744073709551616) : Runs (inRun owner flag) := by
  have e1 : IntKind.i64.wrap owner = owner := i64w (by omega) (by omega)
  have e2 : IntKind.u64.wrap owner = owner := u64w (by omega) (by omega)
  have e3 : IntKind.u64.wrap (owner + 1) = owner + 1 := u64w (by omega) (by omega)
  have e4 : IntKind.u64.wrap (IntKind.u64.wrap (IntKind.i64.wrap owner) + 1) = owner + 1 := by rw [e1, e2, e3]
  have e5 : (IntKind.u64.wrap (IntKind.u64.wrap (IntKind.i64.wrap owner) + 1) == 0) = false := by rw [e4]; simp; omega
  refine ⟨_, _, _, in_run owner flag, .inl rfl, ob_cons (tabIs_self _) (ob_cons e5 (ob_cons (by simp) (ob_cons (by rw [e4, e2, e3]; simp) (ob_cons e5 (ob_cons e5 (ob_cons (by rw [e1]; simp; omega) ob_nil))))))⟩
theorem hown : ownKnob Tryd.prog.godebug = none := by kernel_rfl
theorem hlaidOut : laidOutB Tryd.prog = true := by kernel_rfl
theorem tablesInside_tabs : TabsOk Tryd.prog [("ragpicker/words.fields", Rows.laid_ragpicker_words_fields)] [(1, tab)] := tabsOkB_ok (by kernel_rfl)
set_option maxRecDepth 100000 in
theorem tablesInside_runs : LawRunsT Tryd.prog 7 [63, 22] [(1, tab)] := by
  intro H enc W base args ds p hval hA htab
  obtain ⟨v0, v1, d0, d1, p0, p1, hargs, rfl, rfl, h0, h1⟩ := trodAll_two (args := args.toArray) hA
  obtain rfl : args = [v0, v1] := by simpa using congrArg Array.toList hargs
  obtain ⟨owner, rfl, rowner⟩ := okWide_num Tryd.underlying63 (hval 0 63 v0 rfl rfl)
  obtain ⟨flag, rfl, rflag⟩ := okWide_num Tryd.underlying22 (hval 1 22 v1 rfl rfl)
  obtain ⟨h, x, ob, hr, hx, hob⟩ := in_runs owner flag (u32_range rowner) (u64_range rflag)
  exact run_lawG (W := W) (ρ := inpT [] [(1, tab)]) EI_ok hr hx hob (heapRepT (heap := []) (ls := []) (tabs := [(1, tab)]) (nxt := 1) rfl (by decide) rfl htab rep_nil) (xs := [.int .u32 owner, .int .u64 flag])
    (by simp [denL, den]) (inpT_fresh (nxt := 1) rfl (Nat.le_refl _)) (inpT_glob (nxt := 1) rfl (by decide))

theorem tablesInside_met (os : Os) (args : Array Value) : laidMetH Tryd.prog [("ragpicker/words.fields", Rows.laid_ragpicker_words_fields)] ((World.doorLaid Tryd.prog 400 os).forCall (fun _ _ => 0) ⟨#[], args, []⟩).memory :=
  laidMetH_of_parts3 (fuel := 8) (laidMet_of_run' 8 (by kernel_rfl) (by kernel_rfl)) (by kernel_rfl) (by kernel_rfl)
set_option maxRecDepth 100000 in
theorem tablesInside_lifted (os : Os) (started : os.Started) (H : Type) (enc : TypeId × Value → H) :
    ReturnsInHanded {} Tryd.checked os 7 .any (fun w args => (Rows.tablesInsideSpec.pre enc Tryd.prog Tryd.f7 [] false w args ∧ laidMetH Tryd.prog [("ragpicker/words.fields", Rows.laid_ragpicker_words_fields)] w) ∧ sizedMet enc Tryd.prog Tryd.f7 (OpenSpec.ofChange Rows.tablesInsideSpec) false w args)
      (Rows.tablesInsideSpec.post enc Tryd.prog Tryd.f7 false true false false) := by
  refine returnsInHanded_of_change_and (C := Tryd.checked) (X := fun w _ => laidMetH Tryd.prog [("ragpicker/words.fields", Rows.laid_ragpicker_words_fields)] w) (fun _ _ _ hh h => h.of_heap hh) hown started (by kernel_rfl) Tryd.func7
    (ChangeSpec.witness_shaped (enc := enc) (C := Tryd.checked) (os := os) (X := fun w _ => laidMetH Tryd.prog [("ragpicker/words.fields", Rows.laid_ragpicker_words_fields)] w) false (World.doorLaid Tryd.prog 400 os) #[.int .u32 0, .int .u64 0] 8 rfl (World.shaped_of_RefB (by kernel_rfl) (by kernel_rfl)) (by kernel_rfl) (by kernel_rfl) (by kernel_rfl) (tablesInside_met os _)) ?_
  intro W base args ds gs before hval0 hW _ _ hL _
  exact law_contractT Tryd.params7 tablesInside_runs hlaidOut (of_decide_eq_true (by kernel_rfl)) (by kernel_rfl) Tryd.underlying4 rfl
    (fun ds hl => by match ds, hl with | [d0, d1], _ => exact ⟨rfl, rfl, rfl⟩) W base args ds gs before hval0 hW (tabs_laid (by kernel_rfl) tablesInside_tabs hL)

theorem tablesInside_row : Rows.TablesInsideSaid :=
  OpenClaim.holds_of_wide 7 Tryd.f7 rfl rfl rfl rfl rfl rfl rfl ⟨rfl, rfl, rfl, rfl, rfl⟩ rfl rfl rfl rfl rfl (by kernel_rfl) Tryd.func7 (by kernel_rfl)
    (of_decide_eq_true (by kernel_rfl)) (by unfold Func.isWrapper; first | (rw [if_pos (by decide +kernel)]; kernel_rfl) | (rw [if_neg (by decide +kernel)]; exact ⟨rfl, rfl⟩))
    (fun os started H enc _ => tablesInside_lifted os started H enc)

theorem tablesInside_holds : Rows.TablesInsideCardSaid :=
  Claim7.holds_tied_plain_at .later [] [.data] true (true, "ef2eaec28fe1a934e571bfe973e4cc9daa69c60473e0ffa5b6323df8e3a6cc3b") true tablesInside_row (fun _ h => by cases h) (by kernel_rfl) (fun _ h => by cases h) tablesInside_row_tie rfl ⟨rfl, rfl⟩ (by kernel_rfl) rfl
    (fun f fn hf hfn => by
      obtain rfl : f = 7 := Option.some.inj ((show Tryd.prog.funcNamed "ragpicker/ragpickerlaw10.TablesInside" = some 7 by kernel_rfl).symm.trans hf) |>.symm
      obtain rfl : fn = Tryd.f7 := (Option.some.inj (Tryd.func7.symm.trans hfn)).symm
      exact ⟨by kernel_rfl, fun j t ht => by
        rw [Tryd.params7] at ht
        have hm : t ∈ [63, 22] := by simpa using Array.mem_of_getElem? ht
        have hall : ([63, 22].all fun u => !Tryd.prog.wantsStandIn u) = true := by kernel_rfl
        exact (show Tryd.prog.wantsStandIn t = false by simpa using List.all_eq_true.1 hall t hm)⟩)
    (by kernel_rfl)

#print axioms tablesInside_holds
end Go.Proofs.YtmhjecenmgbpeaaDoor
