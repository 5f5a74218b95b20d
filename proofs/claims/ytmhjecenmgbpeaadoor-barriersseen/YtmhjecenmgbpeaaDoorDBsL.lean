/-
  For all inputs, BarriersSeen returns true. No condition.
-/
import Derived.Test.YtmhjecenmgbpeaaDoorDBs0
import Derived.Test.YtmhjecenmgbpeaaDoorDBs1
import Derived.Test.YtmhjecenmgbpeaaDoorDBs2
import Derived.Test.YtmhjecenmgbpeaaDoorDBs3
import Derived.Test.YtmhjecenmgbpeaaDoorTie
import Derived.Test.YtmhjecenmgbpeaaDoorCards
import Derived.LaidMore
import Derived.ChangeMaps5
import Derived.OpenShut
import Derived.SevenTiedAt
set_option linter.unusedSimpArgs false
set_option linter.unusedVariables false
namespace Go.Proofs.YtmhjecenmgbpeaaDoor
open Go.Ev Go.ChangeShapes Go.WideShapes Go.ChangeAt Go.RowKit
set_option maxRecDepth 100000
noncomputable def bsRun (number field w : Int) (h : List Hint) : Option (AV × List Prop × Bool) := (callF EBS 5000 3 [.sym .u64 number, .sym .u8 field, .sym .u64 w] ⟨tabsH [(0, btab)], 1, gnm 0, h, [], [], true⟩).map (fun x => (x.1, x.2.ob, noneIn (tabsH [(0, btab)]) x.2.wr))
theorem bs_ack (number : Int) (h : 0 ≤ number ∧ number < 18446744073709551616) : decide ((IntKind.u64.wrap ((IntKind.u64.wrap (IntKind.u64.wrap ((number.tmod 281474976710656) + 281474976710656) - 1)) - (number.tmod 281474976710656))).tmod 281474976710656 < 140737488355328) = false := by
  rw [Int.tmod_eq_emod_of_nonneg h.1]
  have a0 : 0 ≤ number % 281474976710656 := by omega
  have a1 : number % 281474976710656 < 281474976710656 := by omega
  generalize number % 281474976710656 = a at a0 a1
  rw [u64w (x := a + 281474976710656) (by omega) (by omega), u64w (x := a + 281474976710656 - 1) (by omega) (by omega), show a + 281474976710656 - 1 - a = 281474976710655 by omega]
  decide
theorem bs_runs (number field w : Int) (h0 : 0 ≤ number ∧ number < 18446744073709551616) (h1 : 0 ≤ field ∧ field < 256) (h2 : 0 ≤ w ∧ w < 18446744073709551616) : Runs (bsRun number field w) := by
  have hfl0 : (IntKind.i64.wrap field).tmod 10 = field % 10 := by rw [i64w (by omega) (by omega), Int.tmod_eq_emod_of_nonneg h1.1]
  have hR : decide ((IntKind.u64.wrap ((IntKind.u64.wrap (IntKind.u64.wrap ((number.tmod 281474976710656) + 281474976710656) - 1)) - (number.tmod 281474976710656))).tmod 281474976710656 < 140737488355328) = false := bs_ack number h0
  rcases (show field % 10 = 0 ∨ field % 10 = 1 ∨ field % 10 = 2 ∨ field % 10 = 3 ∨ field % 10 = 4 ∨ field % 10 = 5 ∨ field % 10 = 6 ∨ field % 10 = 7 ∨ field % 10 = 8 ∨ field % 10 = 9 by omega) with hf | hf | hf | hf | hf | hf | hf | hf | hf | hf
  · have hfl : (IntKind.i64.wrap field).tmod 10 = 0 := by rw [hfl0, hf]
    by_cases hw : w = 0
    · exact ⟨_, _, _, bs0t number field w, .inl rfl, (ob_cons (tabIs_self _) (ob_cons (by simp [hw]) (ob_cons (by simp [hw]) (ob_cons hfl (ob_cons hR ob_nil)))))⟩
    · exact ⟨_, _, _, bs0f number field w, .inl rfl, (ob_cons (tabIs_self _) (ob_cons (by simp [hw]) (ob_cons hR (ob_cons (by simp [hw]) (ob_cons hR (ob_cons (by simp [hw]) (ob_cons hfl (ob_cons hR ob_nil))))))))⟩
  · have hfl : (IntKind.i64.wrap field).tmod 10 = 1 := by rw [hfl0, hf]
    by_cases hw : w = 0
    · exact ⟨_, _, _, bs1t number field w, .inl rfl, (ob_cons (tabIs_self _) (ob_cons (by simp [hw]) (ob_cons (by simp [hw]) (ob_cons hfl (ob_cons hR ob_nil)))))⟩
    · exact ⟨_, _, _, bs1f number field w, .inl rfl, (ob_cons (tabIs_self _) (ob_cons (by simp [hw]) (ob_cons hR (ob_cons (by simp [hw]) (ob_cons hR (ob_cons (by simp [hw]) (ob_cons hfl (ob_cons hR ob_nil))))))))⟩
  · have hfl : (IntKind.i64.wrap field).tmod 10 = 2 := by rw [hfl0, hf]
    cases hw : decide ((IntKind.u64.wrap (w - number.tmod 281474976710656)).tmod 281474976710656 < 140737488355328) with
    | true => exact ⟨_, _, _, bs2t number field w, .inl rfl, (ob_cons (tabIs_self _) (ob_cons hw (ob_cons hw (ob_cons hfl (ob_cons hR ob_nil)))))⟩
    | false => exact ⟨_, _, _, bs2f number field w, .inl rfl, (ob_cons (tabIs_self _) (ob_cons hw (ob_cons hw (ob_cons hw (ob_cons hfl (ob_cons hR ob_nil))))))⟩
  · have hfl : (IntKind.i64.wrap field).tmod 10 = 3 := by rw [hfl0, hf]
    exact ⟨_, _, _, bs3o number field w, .inl rfl, (ob_cons (tabIs_self _) (ob_cons hR (ob_cons hR (ob_cons hfl (ob_cons hR ob_nil)))))⟩
  · have hfl : (IntKind.i64.wrap field).tmod 10 = 4 := by rw [hfl0, hf]
    exact ⟨_, _, _, bs4o number field w, .inl rfl, (ob_cons (tabIs_self _) (ob_cons hR (ob_cons hR (ob_cons hfl (ob_cons hR ob_nil)))))⟩
  · have hfl : (IntKind.i64.wrap field).tmod 10 = 5 := by rw [hfl0, hf]
    exact ⟨_, _, _, bs5o number field w, .inl rfl, (ob_cons (tabIs_self _) (ob_cons hR (ob_cons hR (ob_cons hfl (ob_cons hR ob_nil)))))⟩
  · have hfl : (IntKind.i64.wrap field).tmod 10 = 6 := by rw [hfl0, hf]
    by_cases hw : w = 0
    · exact ⟨_, _, _, bs6f number field w, .inl rfl, (ob_cons (tabIs_self _) (ob_cons (by simp [hw]) (ob_cons (by simp [hw]) (ob_cons (by simp [hw]) (ob_cons hR (ob_cons (by simp [hw]) (ob_cons hR (ob_cons hfl (ob_cons hR ob_nil)))))))))⟩
    · exact ⟨_, _, _, bs6t number field w, .inl rfl, (ob_cons (tabIs_self _) (ob_cons (by simp [hw]) (ob_cons (by simp [hw]) (ob_cons (by simp [hw]) (ob_cons hR (ob_cons hfl (ob_cons hR ob_nil)))))))⟩
  · have hfl : (IntKind.i64.wrap field).tmod 10 = 7 := by rw [hfl0, hf]
    exact ⟨_, _, _, bs7o number field w, .inl rfl, (ob_cons (tabIs_self _) (ob_cons hR (ob_cons hR (ob_cons hfl (ob_cons hR ob_nil)))))⟩
  · have hfl : (IntKind.i64.wrap field).tmod 10 = 8 := by rw [hfl0, hf]
    exact ⟨_, _, _, bs8o number field w, .inl rfl, (ob_cons (tabIs_self _) (ob_cons hR (ob_cons hR (ob_cons hfl (ob_cons hR ob_nil)))))⟩
  · have hfl : (IntKind.i64.wrap field).tmod 10 = 9 := by rw [hfl0, hf]
    exact ⟨_, _, _, bs9o number field w, .inl rfl, (ob_cons (tabIs_self _) (ob_cons hR (ob_cons hR (ob_cons hfl (ob_cons hR ob_nil)))))⟩
theorem hown : ownKnob Tryd.prog.godebug = none := by kernel_rfl
theorem hlaidOut : laidOutB Tryd.prog = true := by kernel_rfl
theorem barriersSeen_tabs : TabsOk Tryd.prog [("ragpicker/barriers.fields", Rows.laid_ragpicker_barriers_fields)] [(0, btab)] := tabsOkB_ok (by kernel_rfl)
set_option maxRecDepth 100000 in
theorem barriersSeen_runs : LawRunsT Tryd.prog 3 [22, 5, 22] [(0, btab)] := by
  intro H enc W base args ds p hval hA htab
  obtain ⟨v0, v1, v2, d0, d1, d2, p0, p1, p2, hargs, rfl, rfl, h0, h1, h2⟩ := trodAll_three (args := args.toArray) hA
  obtain rfl : args = [v0, v1, v2] := by simpa using congrArg Array.toList hargs
  obtain ⟨number, rfl, rnumber⟩ := okWide_num Tryd.underlying22 (hval 0 22 v0 rfl rfl)
  obtain ⟨field, rfl, rfield⟩ := okWide_num Tryd.underlying5 (hval 1 5 v1 rfl rfl)
  obtain ⟨w, rfl, rw⟩ := okWide_num Tryd.underlying22 (hval 2 22 v2 rfl rfl)
  obtain ⟨h, x, ob, hr, hx, hob⟩ := bs_runs number field w (u64_range rnumber) (u8_range rfield) (u64_range rw)
  exact run_lawG (W := W) (ρ := inpT [] [(0, btab)]) EBS_ok hr hx hob (heapRepT (heap := []) (ls := []) (tabs := [(0, btab)]) (nxt := 1) rfl (by decide) rfl htab rep_nil) (xs := [.int .u64 number, .int .u8 field, .int .u64 w])
    (by simp [denL, den]) (inpT_fresh (nxt := 1) rfl (Nat.le_refl _)) (inpT_glob (nxt := 1) rfl (by decide))

theorem barriersSeen_met (os : Os) (args : Array Value) : laidMetH Tryd.prog [("ragpicker/barriers.fields", Rows.laid_ragpicker_barriers_fields)] ((World.doorLaid Tryd.prog 400 os).forCall (fun _ _ => 0) ⟨#[], args, []⟩).memory :=
  laidMetH_of_parts3 (fuel := 8) (laidMet_of_run' 8 (by kernel_rfl) (by kernel_rfl)) (by kernel_rfl) (by kernel_rfl)
set_option maxRecDepth 100000 in
theorem barriersSeen_lifted (os : Os) (started : os.Started) (H : Type) (enc : TypeId × Value → H) :
    ReturnsInHanded {} Tryd.checked os 3 .any (fun w args => (Rows.barriersSeenSpec.pre enc Tryd.prog Tryd.f3 [] false w args ∧ laidMetH Tryd.prog [("ragpicker/barriers.fields", Rows.laid_ragpicker_barriers_fields)] w) ∧ sizedMet enc Tryd.prog Tryd.f3 (OpenSpec.ofChange Rows.barriersSeenSpec) false w args)
      (Rows.barriersSeenSpec.post enc Tryd.prog Tryd.f3 false true false false) := by
  refine returnsInHanded_of_change_and (C := Tryd.checked) (X := fun w _ => laidMetH Tryd.prog [("ragpicker/barriers.fields", Rows.laid_ragpicker_barriers_fields)] w) (fun _ _ _ hh h => h.of_heap hh) hown started (by kernel_rfl) Tryd.func3
    (ChangeSpec.witness_shaped (enc := enc) (C := Tryd.checked) (os := os) (X := fun w _ => laidMetH Tryd.prog [("ragpicker/barriers.fields", Rows.laid_ragpicker_barriers_fields)] w) false (World.doorLaid Tryd.prog 400 os) #[.int .u64 0, .int .u8 0, .int .u64 0] 8 rfl (World.shaped_of_RefB (by kernel_rfl) (by kernel_rfl)) (by kernel_rfl) (by kernel_rfl) (by kernel_rfl) (barriersSeen_met os _)) ?_
  intro W base args ds gs before hval0 hW _ _ hL _
  exact law_contractT Tryd.params3 barriersSeen_runs hlaidOut (of_decide_eq_true (by kernel_rfl)) (by kernel_rfl) Tryd.underlying4 rfl
    (fun ds hl => by match ds, hl with | [d0, d1, d2], _ => exact ⟨rfl, rfl, rfl⟩) W base args ds gs before hval0 hW (tabs_laid (by kernel_rfl) barriersSeen_tabs hL)

theorem barriersSeen_row : Rows.BarriersSeenSaid :=
  OpenClaim.holds_of_wide 3 Tryd.f3 rfl rfl rfl rfl rfl rfl rfl ⟨rfl, rfl, rfl, rfl, rfl⟩ rfl rfl rfl rfl rfl (by kernel_rfl) Tryd.func3 (by kernel_rfl)
    (of_decide_eq_true (by kernel_rfl)) (by unfold Func.isWrapper; first | (rw [if_pos (by decide +kernel)]; kernel_rfl) | (rw [if_neg (by decide +kernel)]; exact ⟨rfl, rfl⟩))
    (fun os started H enc _ => barriersSeen_lifted os started H enc)

theorem barriersSeen_holds : Rows.BarriersSeenCardSaid :=
  Claim7.holds_tied_plain_at .later [] [.data] true (true, "ef2eaec28fe1a934e571bfe973e4cc9daa69c60473e0ffa5b6323df8e3a6cc3b") true barriersSeen_row (fun _ h => by cases h) (by kernel_rfl) (fun _ h => by cases h) barriersSeen_row_tie rfl ⟨rfl, rfl⟩ (by kernel_rfl) rfl
    (fun f fn hf hfn => by
      obtain rfl : f = 3 := Option.some.inj ((show Tryd.prog.funcNamed "ragpicker/ragpickerlaw22.BarriersSeen" = some 3 by kernel_rfl).symm.trans hf) |>.symm
      obtain rfl : fn = Tryd.f3 := (Option.some.inj (Tryd.func3.symm.trans hfn)).symm
      exact ⟨by kernel_rfl, fun j t ht => by
        rw [Tryd.params3] at ht
        have hm : t ∈ [22, 5, 22] := by simpa using Array.mem_of_getElem? ht
        have hall : ([22, 5, 22].all fun u => !Tryd.prog.wantsStandIn u) = true := by kernel_rfl
        exact (show Tryd.prog.wantsStandIn t = false by simpa using List.all_eq_true.1 hall t hm)⟩)
    (by kernel_rfl)

#print axioms barriersSeen_holds
end Go.Proofs.YtmhjecenmgbpeaaDoor
