/-
  For all inputs, BlocksMost returns true. No condition.
-/
import Derived.Test.YtofopjkjmhepeaaDoorTMost
import Derived.Test.YtofopjkjmhepeaaDoorTie
import Derived.Test.YtofopjkjmhepeaaDoorCards
import Derived.LaidMore
import Derived.ChangeMaps5
import Derived.OpenShut
import Derived.SevenTiedAt
set_option linter.unusedSimpArgs false
set_option linter.unusedVariables false
namespace Go.Proofs.YtofopjkjmhepeaaDoor
open Go.Ev Go.ChangeShapes Go.WideShapes Go.ChangeAt Go.RowKit
set_option maxRecDepth 100000
theorem most_1 (first come gone n2 : Int) (S2 : MS) (n3 : Int) (S3 : MS) : (callF EM 2000 6 [AV.sym IntKind.u8 first, AV.sym IntKind.u8 come, AV.sym IntKind.u8 gone] ⟨(tabsH [(0, tab)]), 1, gnm 0, [Hint.lp [1, 2, 6, 7, 8, 9] (Ex.exit 0) (bmX gone n2 S2).tmps (bmH S2) 3 [2, 1], Hint.b false, Hint.lp [2, 6, 7, 8, 12] (Ex.exit 2) (blX n3 S3).tmps (bmH S3) 3 [2, 1], Hint.b true], [], [], false⟩).map (fun x => (x.1, x.2.ob, noneIn (tabsH [(0, tab)]) x.2.wr)) =
 some (AV.bool true, [TabIs tab (tabF tab),
 (IntKind.i64.wrap ((mget S3.M (key 5 0 0)).tmod 100) == n3) = true,
 bmL2 gone n2 (mLoad S2 5 0 0) n3 S3,
 (IntKind.i64.wrap ((mget S2.M (key 5 0 0)).tmod 100) != n2) = false,
 bmL1 come gone (bmN0 first) (bmS0 first) n2 S2,
 (0 : Int) ≤ (5 : Int)], true) := by kernel_rfl
theorem most_run0 (first come gone n2 : Int) (S2 : MS) (n3 : Int) (S3 : MS) (l1 : bmL1 come gone (bmN0 first) (bmS0 first) n2 S2) (l2 : bmL2 gone n2 (mLoad S2 5 0 0) n3 S3) (m2 : IntKind.i64.wrap ((mget S2.M (key 5 0 0)).tmod 100) = n2) (m3 : IntKind.i64.wrap ((mget S3.M (key 5 0 0)).tmod 100) = n3) : Runs (mostRun first come gone) := by
  refine ⟨_, _, _, most_1 first come gone n2 S2 n3 S3, .inl rfl, (ob_cons (tabIs_self _) (ob_cons ?_ (ob_cons ?_ (ob_cons ?_ (ob_cons ?_ (ob_cons (by decide) ob_nil))))))⟩
  ·
    first | (apply Nat.ble_eq_true_of_le; omega) | (simp [Nat.blt_eq]; omega) | exact l1 | exact l2 | (simp [m2]; done) | (simp [m3]; done) | omega
  ·
    first | trivial | exact l1 | exact l2 | (simp [m2]; done) | (simp [m3]; done) | omega
  ·
    first | (apply Nat.ble_eq_true_of_le; omega) | (simp [Nat.blt_eq]; omega) | exact l1 | exact l2 | (simp [m2]; done) | (simp [m3]; done) | omega
  ·
    first | trivial | exact l1 | exact l2 | (simp [m2]; done) | (simp [m3]; done) | omega
theorem most_runs (first come gone : Int) (r1 : 0 ≤ first ∧ first < 256) (r2 : 0 ≤ come ∧ come < 256) (r3 : 0 ≤ gone ∧ gone < 256) : Runs (mostRun first come gone) := by
  have i0 := bmInv0 r1.1 r1.2
  have i2 := bmInv i0 (come % 9).toNat
  have i2' : BInv (bmN (bmN0 first) (come % 9).toNat) (mLoad (bmS (bmS0 first) (come % 9).toNat) 5 0 0) := ⟨i2.lo, i2.hi, i2.b, i2.z, i2.t⟩
  have i3 := blInv i2' (gone % 9).toNat
  exact most_run0 first come gone _ _ _ _ (bm1_lp come gone _ _ _ (tmod9 r2.1 r2.2).1 (tmod9 r2.1 r2.2).2 i0) (bm2_lp gone _ _ _ (tmod9 r3.1 r3.2).1 (tmod9 r3.1 r3.2).2 i2')
    (by rw [i2.b]; exact many_eq (by have := i2.lo; omega) i2.hi) (by rw [i3.b]; exact many_eq (by have := i3.lo; omega) i3.hi)
theorem hown : ownKnob Tryd.prog.godebug = none := by kernel_rfl
theorem hlaidOut : laidOutB Tryd.prog = true := by kernel_rfl
theorem blocksMost_tabs : TabsOk Tryd.prog [("ragpicker/words.fields", Rows.laid_ragpicker_words_fields)] [(0, tab)] := tabsOkB_ok (by kernel_rfl)
set_option maxRecDepth 100000 in
theorem blocksMost_runs : LawRunsT Tryd.prog 6 [5, 5, 5] [(0, tab)] := by
  intro H enc W base args ds p hval hA htab
  obtain ⟨v0, v1, v2, d0, d1, d2, p0, p1, p2, hargs, rfl, rfl, h0, h1, h2⟩ := trodAll_three (args := args.toArray) hA
  obtain rfl : args = [v0, v1, v2] := by simpa using congrArg Array.toList hargs
  obtain ⟨first, rfl, rfirst⟩ := okWide_num Tryd.underlying5 (hval 0 5 v0 rfl rfl)
  obtain ⟨come, rfl, rcome⟩ := okWide_num Tryd.underlying5 (hval 1 5 v1 rfl rfl)
  obtain ⟨gone, rfl, rgone⟩ := okWide_num Tryd.underlying5 (hval 2 5 v2 rfl rfl)
  obtain ⟨h, x, ob, hr, hx, hob⟩ := most_runs first come gone (u8_range rfirst) (u8_range rcome) (u8_range rgone)
  exact run_lawG (W := W) (ρ := inpT [] [(0, tab)]) EM_ok hr hx hob (heapRepT (heap := []) (ls := []) (tabs := [(0, tab)]) (nxt := 1) rfl (by decide) rfl htab rep_nil) (xs := [.int .u8 first, .int .u8 come, .int .u8 gone])
    (by simp [denL, den]) (inpT_fresh (nxt := 1) rfl (Nat.le_refl _)) (inpT_glob (nxt := 1) rfl (by decide))

theorem blocksMost_met (os : Os) (args : Array Value) : laidMetH Tryd.prog [("ragpicker/words.fields", Rows.laid_ragpicker_words_fields)] ((World.doorLaid Tryd.prog 400 os).forCall (fun _ _ => 0) ⟨#[], args, []⟩).memory :=
  laidMetH_of_parts3 (fuel := 8) (laidMet_of_run' 8 (by kernel_rfl) (by kernel_rfl)) (by kernel_rfl) (by kernel_rfl)
set_option maxRecDepth 100000 in
theorem blocksMost_lifted (os : Os) (started : os.Started) (H : Type) (enc : TypeId × Value → H) :
    ReturnsInHanded {} Tryd.checked os 6 .any (fun w args => (Rows.blocksMostSpec.pre enc Tryd.prog Tryd.f6 [] false w args ∧ laidMetH Tryd.prog [("ragpicker/words.fields", Rows.laid_ragpicker_words_fields)] w) ∧ sizedMet enc Tryd.prog Tryd.f6 (OpenSpec.ofChange Rows.blocksMostSpec) false w args)
      (Rows.blocksMostSpec.post enc Tryd.prog Tryd.f6 false true false false) := by
  refine returnsInHanded_of_change_and (C := Tryd.checked) (X := fun w _ => laidMetH Tryd.prog [("ragpicker/words.fields", Rows.laid_ragpicker_words_fields)] w) (fun _ _ _ hh h => h.of_heap hh) hown started (by kernel_rfl) Tryd.func6
    (ChangeSpec.witness_shaped (enc := enc) (C := Tryd.checked) (os := os) (X := fun w _ => laidMetH Tryd.prog [("ragpicker/words.fields", Rows.laid_ragpicker_words_fields)] w) false (World.doorLaid Tryd.prog 400 os) #[.int .u8 0, .int .u8 0, .int .u8 0] 8 rfl (World.shaped_of_RefB (by kernel_rfl) (by kernel_rfl)) (by kernel_rfl) (by kernel_rfl) (by kernel_rfl) (blocksMost_met os _)) ?_
  intro W base args ds gs before hval0 hW _ _ hL _
  exact law_contractT Tryd.params6 blocksMost_runs hlaidOut (of_decide_eq_true (by kernel_rfl)) (by kernel_rfl) Tryd.underlying4 rfl
    (fun ds hl => by match ds, hl with | [d0, d1, d2], _ => exact ⟨rfl, rfl, rfl⟩) W base args ds gs before hval0 hW (tabs_laid (by kernel_rfl) blocksMost_tabs hL)

theorem blocksMost_row : Rows.BlocksMostSaid :=
  OpenClaim.holds_of_wide 6 Tryd.f6 rfl rfl rfl rfl rfl rfl rfl ⟨rfl, rfl, rfl, rfl, rfl⟩ rfl rfl rfl rfl rfl (by kernel_rfl) Tryd.func6 (by kernel_rfl)
    (of_decide_eq_true (by kernel_rfl)) (by unfold Func.isWrapper; first | (rw [if_pos (by decide +kernel)]; kernel_rfl) | (rw [if_neg (by decide +kernel)]; exact ⟨rfl, rfl⟩))
    (fun os started H enc _ => blocksMost_lifted os started H enc)

theorem blocksMost_holds : Rows.BlocksMostCardSaid :=
  Claim7.holds_tied_plain_at .later [] [.data] true (true, "6edbeff121bf7264b12745c36a32a6227e38a7cf0433ee1fb0e39c30d03aa970") false blocksMost_row (fun _ h => by cases h) (by kernel_rfl) (fun _ h => by cases h) blocksMost_row_tie rfl ⟨rfl, rfl⟩ (by kernel_rfl) rfl
    (fun f fn hf hfn => by
      obtain rfl : f = 6 := Option.some.inj ((show Tryd.prog.funcNamed "ragpicker/ragpickerlaw11.BlocksMost" = some 6 by kernel_rfl).symm.trans hf) |>.symm
      obtain rfl : fn = Tryd.f6 := (Option.some.inj (Tryd.func6.symm.trans hfn)).symm
      exact ⟨by kernel_rfl, fun j t ht => by
        rw [Tryd.params6] at ht
        have hm : t ∈ [5, 5, 5] := by simpa using Array.mem_of_getElem? ht
        have hall : ([5, 5, 5].all fun u => !Tryd.prog.wantsStandIn u) = true := by kernel_rfl
        exact (show Tryd.prog.wantsStandIn t = false by simpa using List.all_eq_true.1 hall t hm)⟩)
    (by kernel_rfl)

#print axioms blocksMost_holds
end Go.Proofs.YtofopjkjmhepeaaDoor
