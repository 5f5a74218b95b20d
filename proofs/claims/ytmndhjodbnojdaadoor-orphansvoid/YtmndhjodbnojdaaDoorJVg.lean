/-
  For all inputs, OrphansVoid returns true; its arguments read as before. No condition.
-/
import Derived.Test.YtmndhjodbnojdaaDoorJVr0
import Derived.Test.YtmndhjodbnojdaaDoorJVr1
import Derived.Test.YtmndhjodbnojdaaDoorJVr2
import Derived.Test.YtmndhjodbnojdaaDoorJVr3
import Derived.Test.YtmndhjodbnojdaaDoorJVr4
import Derived.Test.YtmndhjodbnojdaaDoorJVr5
import Derived.Test.YtmndhjodbnojdaaDoorJVr6
import Derived.Test.YtmndhjodbnojdaaDoorJVr7
import Derived.Test.YtmndhjodbnojdaaDoorTie
import Derived.Test.YtmndhjodbnojdaaDoorCards
import Derived.LaidMore
import Derived.ChangeMaps5
import Derived.OpenShut
import Derived.SevenTiedAt
set_option linter.unusedSimpArgs false
set_option linter.unusedVariables false
namespace Go.Proofs.YtmndhjodbnojdaaDoor
open Go.Ev Go.ChangeShapes Go.WideShapes Go.ChangeAt Go.RowKit
set_option maxRecDepth 100000
theorem ova_1 (m : Nat) (f : Nat → Nat → AV) (n : Nat) (g : Nat → Nat → AV) : (callF EOv 6000 6 [AV.ss 4 1 0 m none, AV.ss 6 2 0 n none] ⟨(tabsH [(0, tab)] ++ [(1, AO.arr 4 wSh true m f), (2, AO.arr 6 ySh true n g)]), 3, gnm 0, [Hint.b true], [], [], false⟩).map (fun x => (x.1, x.2.ob, noneIn (tabsH [(0, tab)] ++ [(1, AO.arr 4 wSh true m f), (2, AO.arr 6 ySh true n g)]) x.2.wr)) =
 some (AV.bool true, [TabIs tab (tabF tab),
 decide (Int.ofNat m > 300) = true], true) := by kernel_rfl
theorem ovb_1 (m : Nat) (f : Nat → Nat → AV) (n : Nat) (g : Nat → Nat → AV) : (callF EOv 6000 6 [AV.ss 4 1 0 m none, AV.ss 6 2 0 n none] ⟨(tabsH [(0, tab)] ++ [(1, AO.arr 4 wSh true m f), (2, AO.arr 6 ySh true n g)]), 3, gnm 0, [Hint.b false, Hint.b true], [], [], false⟩).map (fun x => (x.1, x.2.ob, noneIn (tabsH [(0, tab)] ++ [(1, AO.arr 4 wSh true m f), (2, AO.arr 6 ySh true n g)]) x.2.wr)) =
 some (AV.bool true, [TabIs tab (tabF tab),
 decide (Int.ofNat n > 20) = true,
 decide (Int.ofNat m > 300) = false], true) := by kernel_rfl
theorem ov_runs (m : Nat) (f : Nat → Nat → AV) (n : Nat) (g : Nat → Nat → AV) (hr : ∀ i, i < m → 0 ≤ avInt (f i 0)) : Runs (ovRun m f n g) := by
  by_cases h1 : (m : Int) > 300
  · have hv : decide (Int.ofNat m > 300) = true := decide_eq_true h1
    refine ⟨_, _, _, ova_1 m f n g, .inl rfl, (ob_cons (tabIs_self _) (ob_cons ?_ ob_nil))⟩
    ·
      first | with_reducible assumption | exact rfl | exact tabIs_self _ | exact hv | exact hz | (apply Nat.ble_eq_true_of_le; omega) | (simp [Nat.blt_eq]; omega)
  have hv : decide (Int.ofNat m > 300) = false := decide_eq_false h1
  by_cases h2 : (n : Int) > 20
  · have hz : decide (Int.ofNat n > 20) = true := decide_eq_true h2
    refine ⟨_, _, _, ovb_1 m f n g, .inl rfl, (ob_cons (tabIs_self _) (ob_cons ?_ (ob_cons ?_ ob_nil)))⟩
    ·
      first | with_reducible assumption | exact rfl | exact tabIs_self _ | exact hv | exact hz | (apply Nat.ble_eq_true_of_le; omega) | (simp [Nat.blt_eq]; omega)
    ·
      first | with_reducible assumption | exact rfl | exact tabIs_self _ | exact hv | exact hz | (apply Nat.ble_eq_true_of_le; omega) | (simp [Nat.blt_eq]; omega)
  have hm : m ≤ 300 := by omega
  have hn : n ≤ 20 := by omega
  have hc : n = 0 ∨ n = 1 ∨ n = 2 ∨ n = 3 ∨ n = 4 ∨ n = 5 ∨ n = 6 ∨ n = 7 ∨ n = 8 ∨ n = 9 ∨ n = 10 ∨ n = 11 ∨ n = 12 ∨ n = 13 ∨ n = 14 ∨ n = 15 ∨ n = 16 ∨ n = 17 ∨ n = 18 ∨ n = 19 ∨ n = 20 := by omega
  rcases hc with rfl | rfl | rfl | rfl | rfl | rfl | rfl | rfl | rfl | rfl | rfl | rfl | rfl | rfl | rfl | rfl | rfl | rfl | rfl | rfl | rfl
  · exact ⟨_, _, _, ov_r0 m f g, .inl rfl, ovObs_ok (by decide) hm hr⟩
  · exact ⟨_, _, _, ov_r1 m f g, .inl rfl, ovObs_ok (by decide) hm hr⟩
  · exact ⟨_, _, _, ov_r2 m f g, .inl rfl, ovObs_ok (by decide) hm hr⟩
  · exact ⟨_, _, _, ov_r3 m f g, .inl rfl, ovObs_ok (by decide) hm hr⟩
  · exact ⟨_, _, _, ov_r4 m f g, .inl rfl, ovObs_ok (by decide) hm hr⟩
  · exact ⟨_, _, _, ov_r5 m f g, .inl rfl, ovObs_ok (by decide) hm hr⟩
  · exact ⟨_, _, _, ov_r6 m f g, .inl rfl, ovObs_ok (by decide) hm hr⟩
  · exact ⟨_, _, _, ov_r7 m f g, .inl rfl, ovObs_ok (by decide) hm hr⟩
  · exact ⟨_, _, _, ov_r8 m f g, .inl rfl, ovObs_ok (by decide) hm hr⟩
  · exact ⟨_, _, _, ov_r9 m f g, .inl rfl, ovObs_ok (by decide) hm hr⟩
  · exact ⟨_, _, _, ov_r10 m f g, .inl rfl, ovObs_ok (by decide) hm hr⟩
  · exact ⟨_, _, _, ov_r11 m f g, .inl rfl, ovObs_ok (by decide) hm hr⟩
  · exact ⟨_, _, _, ov_r12 m f g, .inl rfl, ovObs_ok (by decide) hm hr⟩
  · exact ⟨_, _, _, ov_r13 m f g, .inl rfl, ovObs_ok (by decide) hm hr⟩
  · exact ⟨_, _, _, ov_r14 m f g, .inl rfl, ovObs_ok (by decide) hm hr⟩
  · exact ⟨_, _, _, ov_r15 m f g, .inl rfl, ovObs_ok (by decide) hm hr⟩
  · exact ⟨_, _, _, ov_r16 m f g, .inl rfl, ovObs_ok (by decide) hm hr⟩
  · exact ⟨_, _, _, ov_r17 m f g, .inl rfl, ovObs_ok (by decide) hm hr⟩
  · exact ⟨_, _, _, ov_r18 m f g, .inl rfl, ovObs_ok (by decide) hm hr⟩
  · exact ⟨_, _, _, ov_r19 m f g, .inl rfl, ovObs_ok (by decide) hm hr⟩
  · exact ⟨_, _, _, ov_r20 m f g, .inl rfl, ovObs_ok (by decide) hm hr⟩
theorem hown : ownKnob Tryd.prog.godebug = none := by kernel_rfl
theorem hlaidOut : laidOutB Tryd.prog = true := by kernel_rfl
theorem k97 : flatK Tryd.prog 4 97 = some wSh := by kernel_rfl
theorem k80 : flatK Tryd.prog 4 80 = some ySh := by kernel_rfl
theorem orphansVoid_tabs : TabsOk Tryd.prog [("ragpicker/words.fields", Rows.laid_ragpicker_words_fields)] [(0, tab)] := tabsOkB_ok (by kernel_rfl)
set_option maxRecDepth 100000 in
theorem orphansVoid_runs : LawRunsT Tryd.prog 6 [66, 67] [(0, tab)] := by
  intro H enc W base args ds p hval hA htab
  obtain ⟨v0, v1, d0, d1, p0, p1, hargs, rfl, rfl, h0, h1⟩ := trodAll_two (args := args.toArray) hA
  obtain rfl : args = [v0, v1] := by simpa using congrArg Array.toList hargs
  obtain ⟨fuel0, h0⟩ := h0
  obtain ⟨c0, l0, q0, rfl⟩ := okWide_slice Tryd.underlying66 (hval 0 66 v0 rfl rfl)
  obtain ⟨L0, len0, num0, bit0, hw0, hs0, hl0, hm0, hn0, hob0, hwf0⟩ := open_rows Tryd.underlying66 k97 (by kernel_rfl) (by decide) (okWide_spot Tryd.underlying66 (hval 0 66 _ rfl rfl)) (by simpa [Value.cells] using h0)
  have hs0 : L0.slice 4 0 len0 none = some (.slice c0 l0 q0) := hs0
  obtain ⟨fuel1, h1⟩ := h1
  obtain ⟨c1, l1, q1, rfl⟩ := okWide_slice Tryd.underlying67 (hval 1 67 v1 rfl rfl)
  obtain ⟨L1, len1, num1, bit1, hw1, hs1, hl1, hm1, hn1, hob1, hwf1⟩ := open_rows Tryd.underlying67 k80 (by kernel_rfl) (by decide) (okWide_spot Tryd.underlying67 (hval 1 67 _ rfl rfl)) (by simpa [Value.cells] using h1)
  have hs1 : L1.slice 6 0 len1 none = some (.slice c1 l1 q1) := hs1
  obtain ⟨h, x, ob, hr, hx, hob⟩ := ov_runs len0 (rowAV wSh num0 bit0) len1 (rowAV ySh num1 bit1) (fun i hi => (u8_range (hwf0 i hi 0 .u8 rfl)).1)
  have e0 : inpT [(1, L0), (2, L1)] [(0, tab)] 1 = some L0 := inpT_of rfl
  have e1 : inpT [(1, L0), (2, L1)] [(0, tab)] 2 = some L1 := inpT_of rfl
  exact run_lawG (W := W) (ρ := inpT [(1, L0), (2, L1)] [(0, tab)]) EOv_ok hr hx hob (heapRepT (heap := [(1, .arr 4 wSh true len0 (rowAV wSh num0 bit0)), (2, .arr 6 ySh true len1 (rowAV ySh num1 bit1))]) (ls := [(1, L0), (2, L1)]) (tabs := [(0, tab)]) (nxt := 3) rfl (by decide) rfl htab (rep_cons rfl rfl hob0 (rep_cons rfl rfl hob1 rep_nil))) (xs := [.slice c0 l0 q0, .slice c1 l1 q1])
    (by simp [denL, den, e0, hs0, e1, hs1]) (inpT_fresh (nxt := 3) rfl (Nat.le_refl _)) (inpT_glob (nxt := 3) rfl (by decide))

theorem orphansVoid_met (os : Os) (args : Array Value) : laidMetH Tryd.prog [("ragpicker/words.fields", Rows.laid_ragpicker_words_fields)] ((World.doorLaid Tryd.prog 400 os).forCall (fun _ _ => 0) ⟨#[], args, []⟩).memory :=
  laidMetH_of_parts3 (fuel := 8) (laidMet_of_run' 8 (by kernel_rfl) (by kernel_rfl)) (by kernel_rfl) (by kernel_rfl)
set_option maxRecDepth 100000 in
theorem orphansVoid_lifted (os : Os) (started : os.Started) (H : Type) (enc : TypeId × Value → H) :
    ReturnsInHanded {} Tryd.checked os 6 .any (fun w args => (Rows.orphansVoidSpec.pre enc Tryd.prog Tryd.f6 [] false w args ∧ laidMetH Tryd.prog [("ragpicker/words.fields", Rows.laid_ragpicker_words_fields)] w) ∧ sizedMet enc Tryd.prog Tryd.f6 (OpenSpec.ofChange Rows.orphansVoidSpec) false w args)
      (Rows.orphansVoidSpec.post enc Tryd.prog Tryd.f6 false true false false) := by
  refine returnsInHanded_of_change_and (C := Tryd.checked) (X := fun w _ => laidMetH Tryd.prog [("ragpicker/words.fields", Rows.laid_ragpicker_words_fields)] w) (fun _ _ _ hh h => h.of_heap hh) hown started (by kernel_rfl) Tryd.func6
    (ChangeSpec.witness_shaped (enc := enc) (C := Tryd.checked) (os := os) (X := fun w _ => laidMetH Tryd.prog [("ragpicker/words.fields", Rows.laid_ragpicker_words_fields)] w) false (World.doorLaid Tryd.prog 400 os) #[.slice none 0 0, .slice none 0 0] 8 rfl (World.shaped_of_RefB (by kernel_rfl) (by kernel_rfl)) (by kernel_rfl) (by kernel_rfl) (by kernel_rfl) (orphansVoid_met os _)) ?_
  intro W base args ds gs before hval0 hW _ _ hL _
  exact law_contractT Tryd.params6 orphansVoid_runs hlaidOut (of_decide_eq_true (by kernel_rfl)) (by kernel_rfl) Tryd.underlying4 rfl
    (fun ds hl => by match ds, hl with | [d0, d1], _ => exact ⟨rfl, rfl, rfl⟩) W base args ds gs before hval0 hW (tabs_laid (by kernel_rfl) orphansVoid_tabs hL)

theorem orphansVoid_row : Rows.OrphansVoidSaid :=
  OpenClaim.holds_of_wide 6 Tryd.f6 rfl rfl rfl rfl rfl rfl rfl ⟨rfl, rfl, rfl, rfl, rfl⟩ rfl rfl rfl rfl rfl (by kernel_rfl) Tryd.func6 (by kernel_rfl)
    (of_decide_eq_true (by kernel_rfl)) (by unfold Func.isWrapper; first | (rw [if_pos (by decide +kernel)]; kernel_rfl) | (rw [if_neg (by decide +kernel)]; exact ⟨rfl, rfl⟩))
    (fun os started H enc _ => orphansVoid_lifted os started H enc)

theorem orphansVoid_holds : Rows.OrphansVoidCardSaid :=
  Claim7.holds_tied_plain_at .later [] [.data] true (true, "9d093ca4ff3baad62d12e56c880e18e1afdaedaaab76b1b6bc1172113a6b8a5e") true orphansVoid_row (fun _ h => by cases h) (by kernel_rfl) (fun _ h => by cases h) orphansVoid_row_tie rfl ⟨rfl, rfl⟩ (by kernel_rfl) rfl
    (fun f fn hf hfn => by
      obtain rfl : f = 6 := Option.some.inj ((show Tryd.prog.funcNamed "ragpicker/ragpickerlaw12.OrphansVoid" = some 6 by kernel_rfl).symm.trans hf) |>.symm
      obtain rfl : fn = Tryd.f6 := (Option.some.inj (Tryd.func6.symm.trans hfn)).symm
      exact ⟨by kernel_rfl, fun j t ht => by
        rw [Tryd.params6] at ht
        have hm : t ∈ [66, 67] := by simpa using Array.mem_of_getElem? ht
        have hall : ([66, 67].all fun u => !Tryd.prog.wantsStandIn u) = true := by kernel_rfl
        exact (show Tryd.prog.wantsStandIn t = false by simpa using List.all_eq_true.1 hall t hm)⟩)
    (by kernel_rfl)

#print axioms orphansVoid_holds
end Go.Proofs.YtmndhjodbnojdaaDoor
