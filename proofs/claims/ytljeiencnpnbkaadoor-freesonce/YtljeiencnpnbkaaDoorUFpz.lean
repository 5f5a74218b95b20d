/-
  For all inputs, FreesOnce returns true; its arguments read as before. No condition.
-/
import Derived.Test.YtljeiencnpnbkaaDoorUFon
import Derived.Test.YtljeiencnpnbkaaDoorTie
import Derived.Test.YtljeiencnpnbkaaDoorCards
import Derived.LaidMore
import Derived.ChangeMaps5
import Derived.OpenShut
import Derived.SevenTiedAt
set_option linter.unusedSimpArgs false
set_option linter.unusedVariables false
namespace Go.Proofs.YtljeiencnpnbkaaDoor
open Go.Ev Go.ChangeShapes Go.WideShapes Go.ChangeAt Go.RowKit
set_option maxRecDepth 100000
theorem fzh_1 (w : Int) (m : Nat) (f : Nat → Nat → AV) : roundB EFy 5000 (seqs foHead Code.skip) (Hp.mk (tabsH [(0, tab)] ++ [(1, AO.arr 1 [CK.int IntKind.u8] true m f)]) 2 (gnm 0) [] [] [] false) [(3, Src.nm 3), (5, Src.nm 4), (2, Src.nm 2)] (foSt w m f) [Hint.b false] (foU m f ((IntKind.i64.wrap w).tmod 61).toNat) =
 some (Ex.norm, [(0 : Nat) = 0,
 m = m,
 (none : Option Nat) = none,
 (IntKind.i64.wrap w).tmod 61 = Int.ofNat ((IntKind.i64.wrap w).tmod 61).toNat,
 (0 : Nat) = 0,
 (0 : Nat) = 0,
 (0 : Nat) = 0,
 (6 : Nat) = 6,
 some 6 = some 6,
 true = true,
 (1 : Nat) ≤ (1 : Nat),
 tabF tab = tabF tab ∧ plainSh (List.map kindOfV tab) = true ∨ ∀ (i : Nat), i < 1 → rowOb (List.map kindOfV tab) 0 (tabF tab i) (tabF tab i),
 (fillS ((IntKind.i64.wrap w).tmod 61).toNat).st = (fillS ((IntKind.i64.wrap w).tmod 61).toNat).st,
 (fillS ((IntKind.i64.wrap w).tmod 61).toNat).L.c = (fillS ((IntKind.i64.wrap w).tmod 61).toNat).L.c,
 (fillS ((IntKind.i64.wrap w).tmod 61).toNat).L.k = (fillS ((IntKind.i64.wrap w).tmod 61).toNat).L.k,
 (fillS ((IntKind.i64.wrap w).tmod 61).toNat).L.a = (fillS ((IntKind.i64.wrap w).tmod 61).toNat).L.a,
 (fillS ((IntKind.i64.wrap w).tmod 61).toNat).L.f = (fillS ((IntKind.i64.wrap w).tmod 61).toNat).L.f,
 (fillS ((IntKind.i64.wrap w).tmod 61).toNat).L.w = (fillS ((IntKind.i64.wrap w).tmod 61).toNat).L.w,
 (fillS ((IntKind.i64.wrap w).tmod 61).toNat).L.i = (fillS ((IntKind.i64.wrap w).tmod 61).toNat).L.i,
 (fillS ((IntKind.i64.wrap w).tmod 61).toNat).L.d = (fillS ((IntKind.i64.wrap w).tmod 61).toNat).L.d,
 ∀ (k : List Int), (fillS ((IntKind.i64.wrap w).tmod 61).toNat).M k = (fillS ((IntKind.i64.wrap w).tmod 61).toNat).M k,
 true = true,
 m ≤ m,
 f = f ∧ plainSh [CK.int IntKind.u8] = true ∨ ∀ (i : Nat), i < m → rowOb [CK.int IntKind.u8] 0 (f i) (f i),
 decide (Int.ofNat m > 600) = false,
 tabF tab = tabF tab,
 0 ≤ (IntKind.i64.wrap w).tmod 61,
 (IntKind.i64.wrap w).tmod 61 ≤ 60]) := by kernel_rfl
theorem fzr_1 (w : Int) (m : Nat) (f : Nat → Nat → AV) : (callF EFy 5000 8 [AV.sym IntKind.u8 w, AV.ss 1 1 0 m none] ⟨(tabsH [(0, tab)] ++ [(1, AO.arr 1 [CK.int IntKind.u8] true m f)]), 2, gnm 0, [Hint.b true], [], [], false⟩).map (fun x => (x.1, x.2.ob, noneIn (tabsH [(0, tab)] ++ [(1, AO.arr 1 [CK.int IntKind.u8] true m f)]) x.2.wr)) =
 some (AV.bool true, [TabIs tab (tabF tab),
 decide (Int.ofNat m > 600) = true,
 tabF tab = tabF tab,
 0 ≤ (IntKind.i64.wrap w).tmod 61,
 (IntKind.i64.wrap w).tmod 61 ≤ 60], true) := by kernel_rfl
theorem fz_runs (w : Int) (m : Nat) (f : Nat → Nat → AV) (h0 : 0 ≤ w ∧ w < 256) (hr : ∀ i, i < m → 0 ≤ avInt (f i 0)) : RunsAt Tryd.prog 8 [.sym .u8 w, .ss 1 1 0 m none] (tabsH [(0, tab)] ++ [(1, .arr 1 [.int .u8] true m f)]) 2 := by
  have e1 : IntKind.i64.wrap w = w := i64w (by omega) (by omega)
  have e2 : (IntKind.i64.wrap w).tmod 61 = w % 61 := by rw [e1, Int.tmod_eq_emod_of_nonneg h0.1]
  have hw0 : 0 ≤ (IntKind.i64.wrap w).tmod 61 := by rw [e2]; omega
  have hw1 : (IntKind.i64.wrap w).tmod 61 ≤ 60 := by rw [e2]; omega
  have hw2 : (IntKind.i64.wrap w).tmod 61 = Int.ofNat ((IntKind.i64.wrap w).tmod 61).toNat := (Int.toNat_of_nonneg hw0).symm
  by_cases hm : m ≤ 600
  · have hn : ((IntKind.i64.wrap w).tmod 61).toNat ≤ 60 := by omega
    have hm1 : decide (Int.ofNat m > 600) = false := decide_eq_false (by simp; omega)
    refine (runsAt_split EFy_ok (fn := Tryd.f8) (by kernel_rfl) (by kernel_rfl) (fzh_1 w m f) (ob_cons rfl (ob_cons rfl (ob_cons rfl (ob_cons ?_ (ob_cons rfl (ob_cons rfl (ob_cons rfl (ob_cons ?_ (ob_cons rfl (ob_cons rfl (ob_cons (Nat.le_refl _) (ob_cons (.inl ⟨rfl, rfl⟩) (ob_cons ?_ (ob_cons ?_ (ob_cons ?_ (ob_cons ?_ (ob_cons ?_ (ob_cons ?_ (ob_cons ?_ (ob_cons ?_ (ob_cons ?_ (ob_cons rfl (ob_cons (Nat.le_refl _) (ob_cons (.inl ⟨rfl, rfl⟩) (ob_cons ?_ (ob_cons rfl (ob_cons ?_ (ob_cons ?_ ob_nil)))))))))))))))))))))))))))) (.inr rfl) (fo_code hm hn hr) (by kernel_rfl) (.inl rfl) (by kernel_rfl) (subB_get _ rfl) (by show 8 ≤ gnm 0; unfold gnm; omega))
    ·
      first | with_reducible assumption | exact rfl | exact tabIs_self _ | exact hw0 | exact hw1 | exact hw2 | exact hw2.symm | exact hm1 | exact .inl ⟨rfl, rfl⟩ | exact fun _ => rfl | (simp; done) | (simp; omega) | omega | rfl
    ·
      first | with_reducible assumption | exact rfl | exact tabIs_self _ | exact hw0 | exact hw1 | exact hw2 | exact hw2.symm | exact hm1 | exact .inl ⟨rfl, rfl⟩ | exact fun _ => rfl | (simp; done) | (simp; omega) | omega | rfl
    ·
      first | with_reducible assumption | exact rfl | exact tabIs_self _ | exact hw0 | exact hw1 | exact hw2 | exact hw2.symm | exact hm1 | exact .inl ⟨rfl, rfl⟩ | exact fun _ => rfl | (simp; done) | (simp; omega) | omega | rfl
    ·
      first | with_reducible assumption | exact rfl | exact tabIs_self _ | exact hw0 | exact hw1 | exact hw2 | exact hw2.symm | exact hm1 | exact .inl ⟨rfl, rfl⟩ | exact fun _ => rfl | (simp; done) | (simp; omega) | omega | rfl
    ·
      first | with_reducible assumption | exact rfl | exact tabIs_self _ | exact hw0 | exact hw1 | exact hw2 | exact hw2.symm | exact hm1 | exact .inl ⟨rfl, rfl⟩ | exact fun _ => rfl | (simp; done) | (simp; omega) | omega | rfl
    ·
      first | with_reducible assumption | exact rfl | exact tabIs_self _ | exact hw0 | exact hw1 | exact hw2 | exact hw2.symm | exact hm1 | exact .inl ⟨rfl, rfl⟩ | exact fun _ => rfl | (simp; done) | (simp; omega) | omega | rfl
    ·
      first | with_reducible assumption | exact rfl | exact tabIs_self _ | exact hw0 | exact hw1 | exact hw2 | exact hw2.symm | exact hm1 | exact .inl ⟨rfl, rfl⟩ | exact fun _ => rfl | (simp; done) | (simp; omega) | omega | rfl
    ·
      first | with_reducible assumption | exact rfl | exact tabIs_self _ | exact hw0 | exact hw1 | exact hw2 | exact hw2.symm | exact hm1 | exact .inl ⟨rfl, rfl⟩ | exact fun _ => rfl | (simp; done) | (simp; omega) | omega | rfl
    ·
      first | with_reducible assumption | exact rfl | exact tabIs_self _ | exact hw0 | exact hw1 | exact hw2 | exact hw2.symm | exact hm1 | exact .inl ⟨rfl, rfl⟩ | exact fun _ => rfl | (simp; done) | (simp; omega) | omega | rfl
    ·
      first | with_reducible assumption | exact rfl | exact tabIs_self _ | exact hw0 | exact hw1 | exact hw2 | exact hw2.symm | exact hm1 | exact .inl ⟨rfl, rfl⟩ | exact fun _ => rfl | (simp; done) | (simp; omega) | omega | rfl
    ·
      first | with_reducible assumption | exact rfl | exact tabIs_self _ | exact hw0 | exact hw1 | exact hw2 | exact hw2.symm | exact hm1 | exact .inl ⟨rfl, rfl⟩ | exact fun _ => rfl | (simp; done) | (simp; omega) | omega | exact fun _ => rfl
    ·
      first | with_reducible assumption | exact rfl | exact tabIs_self _ | exact hw0 | exact hw1 | exact hw2 | exact hw2.symm | exact hm1 | exact .inl ⟨rfl, rfl⟩ | exact fun _ => rfl | (simp; done) | (simp; omega) | omega | (apply Nat.ble_eq_true_of_le; omega) | (simp [Nat.blt_eq]; omega)
    ·
      first | with_reducible assumption | exact rfl | exact tabIs_self _ | exact hw0 | exact hw1 | exact hw2 | exact hw2.symm | exact hm1 | exact .inl ⟨rfl, rfl⟩ | exact fun _ => rfl | (simp; done) | (simp; omega) | omega | exact Nat.le_refl _ | omega
    ·
      first | with_reducible assumption | exact rfl | exact tabIs_self _ | exact hw0 | exact hw1 | exact hw2 | exact hw2.symm | exact hm1 | exact .inl ⟨rfl, rfl⟩ | exact fun _ => rfl | (simp; done) | (simp; omega) | omega | exact Nat.le_refl _ | omega
  · have hm1 : decide (Int.ofNat m > 600) = true := decide_eq_true (by simp; omega)
    refine runsAt_of EFy_ok (hints := [.b true]) (fzr_1 w m f) (.inl rfl) (ob_cons (tabIs_self _) (ob_cons ?_ (ob_cons rfl (ob_cons ?_ (ob_cons ?_ ob_nil)))))
    ·
      first | with_reducible assumption | exact rfl | exact tabIs_self _ | exact hw0 | exact hw1 | exact hw2 | exact hw2.symm | exact hm1 | exact .inl ⟨rfl, rfl⟩ | exact fun _ => rfl | (simp; done) | (simp; omega) | omega | (apply Nat.ble_eq_true_of_le; omega) | (simp [Nat.blt_eq]; omega)
    ·
      first | with_reducible assumption | exact rfl | exact tabIs_self _ | exact hw0 | exact hw1 | exact hw2 | exact hw2.symm | exact hm1 | exact .inl ⟨rfl, rfl⟩ | exact fun _ => rfl | (simp; done) | (simp; omega) | omega | exact Nat.le_refl _ | omega
    ·
      first | with_reducible assumption | exact rfl | exact tabIs_self _ | exact hw0 | exact hw1 | exact hw2 | exact hw2.symm | exact hm1 | exact .inl ⟨rfl, rfl⟩ | exact fun _ => rfl | (simp; done) | (simp; omega) | omega | exact Nat.le_refl _ | omega
theorem hown : ownKnob Tryd.prog.godebug = none := by kernel_rfl
theorem hlaidOut : laidOutB Tryd.prog = true := by kernel_rfl
theorem k5 : flatK Tryd.prog 4 5 = some [.int .u8] := by kernel_rfl
theorem freesOnce_tabs : TabsOk Tryd.prog [("ragpicker/words.fields", Rows.laid_ragpicker_words_fields)] [(0, tab)] := tabsOkB_ok (by kernel_rfl)
set_option maxRecDepth 100000 in
theorem freesOnce_runs : LawRunsT Tryd.prog 8 [5, 39] [(0, tab)] := by
  intro H enc W base args ds p hval hA htab
  obtain ⟨v0, v1, d0, d1, p0, p1, hargs, rfl, rfl, h0, h1⟩ := trodAll_two (args := args.toArray) hA
  obtain rfl : args = [v0, v1] := by simpa using congrArg Array.toList hargs
  obtain ⟨w, rfl, rw⟩ := okWide_num Tryd.underlying5 (hval 0 5 v0 rfl rfl)
  obtain ⟨fuel1, h1⟩ := h1
  obtain ⟨c1, l1, q1, rfl⟩ := okWide_slice Tryd.underlying39 (hval 1 39 v1 rfl rfl)
  obtain ⟨L1, len1, num1, bit1, hw1, hs1, hl1, hm1, hn1, hob1, hwf1⟩ := open_rows Tryd.underlying39 k5 (by kernel_rfl) (by decide) (okWide_spot Tryd.underlying39 (hval 1 39 _ rfl rfl)) (by simpa [Value.cells] using h1)
  have hs1 : L1.slice 1 0 len1 none = some (.slice c1 l1 q1) := hs1
  have hR := fz_runs w len1 (rowAV [.int .u8] num1 bit1) (u8_range rw) (fun i hi => (u8_range (hwf1 i hi 0 .u8 rfl)).1)
  have e1 : inpT [(1, L1)] [(0, tab)] 1 = some L1 := inpT_of rfl
  exact hR W [.int .u8 w, .slice c1 l1 q1] (inpT [(1, L1)] [(0, tab)]) (heapRepT (heap := [(1, .arr 1 [.int .u8] true len1 (rowAV [.int .u8] num1 bit1))]) (ls := [(1, L1)]) (tabs := [(0, tab)]) (nxt := 2) rfl (by decide) rfl htab (rep_cons rfl rfl hob1 rep_nil))
    (by simp [denL, den, e1, hs1]) (inpT_fresh (nxt := 2) rfl (Nat.le_refl _)) (inpT_glob (nxt := 2) rfl (by decide))

theorem freesOnce_met (os : Os) (args : Array Value) : laidMetH Tryd.prog [("ragpicker/words.fields", Rows.laid_ragpicker_words_fields)] ((World.doorLaid Tryd.prog 400 os).forCall (fun _ _ => 0) ⟨#[], args, []⟩).memory :=
  laidMetH_of_parts3 (fuel := 8) (laidMet_of_run' 8 (by kernel_rfl) (by kernel_rfl)) (by kernel_rfl) (by kernel_rfl)
set_option maxRecDepth 100000 in
theorem freesOnce_lifted (os : Os) (started : os.Started) (H : Type) (enc : TypeId × Value → H) :
    ReturnsInHanded {} Tryd.checked os 8 .any (fun w args => (Rows.freesOnceSpec.pre enc Tryd.prog Tryd.f8 [] false w args ∧ laidMetH Tryd.prog [("ragpicker/words.fields", Rows.laid_ragpicker_words_fields)] w) ∧ sizedMet enc Tryd.prog Tryd.f8 (OpenSpec.ofChange Rows.freesOnceSpec) false w args)
      (Rows.freesOnceSpec.post enc Tryd.prog Tryd.f8 false true false false) := by
  refine returnsInHanded_of_change_and (C := Tryd.checked) (X := fun w _ => laidMetH Tryd.prog [("ragpicker/words.fields", Rows.laid_ragpicker_words_fields)] w) (fun _ _ _ hh h => h.of_heap hh) hown started (by kernel_rfl) Tryd.func8
    (ChangeSpec.witness_shaped (enc := enc) (C := Tryd.checked) (os := os) (X := fun w _ => laidMetH Tryd.prog [("ragpicker/words.fields", Rows.laid_ragpicker_words_fields)] w) false (World.doorLaid Tryd.prog 400 os) #[.int .u8 0, .slice none 0 0] 8 rfl (World.shaped_of_RefB (by kernel_rfl) (by kernel_rfl)) (by kernel_rfl) (by kernel_rfl) (by kernel_rfl) (freesOnce_met os _)) ?_
  intro W base args ds gs before hval0 hW _ _ hL _
  exact law_contractT Tryd.params8 freesOnce_runs hlaidOut (of_decide_eq_true (by kernel_rfl)) (by kernel_rfl) Tryd.underlying4 rfl
    (fun ds hl => by match ds, hl with | [d0, d1], _ => exact ⟨rfl, rfl, rfl⟩) W base args ds gs before hval0 hW (tabs_laid (by kernel_rfl) freesOnce_tabs hL)

theorem freesOnce_row : Rows.FreesOnceSaid :=
  OpenClaim.holds_of_wide 8 Tryd.f8 rfl rfl rfl rfl rfl rfl rfl ⟨rfl, rfl, rfl, rfl, rfl⟩ rfl rfl rfl rfl rfl (by kernel_rfl) Tryd.func8 (by kernel_rfl)
    (of_decide_eq_true (by kernel_rfl)) (by unfold Func.isWrapper; first | (rw [if_pos (by decide +kernel)]; kernel_rfl) | (rw [if_neg (by decide +kernel)]; exact ⟨rfl, rfl⟩))
    (fun os started H enc _ => freesOnce_lifted os started H enc)

theorem freesOnce_holds : Rows.FreesOnceCardSaid :=
  Claim7.holds_tied_plain_at .later [] [.data] true (true, "4e0bc994c6d343103b6ab8b907f10e6d685916657cae56a311d4d2d711378d4b") false freesOnce_row (fun _ h => by cases h) (by kernel_rfl) (fun _ h => by cases h) freesOnce_row_tie rfl ⟨rfl, rfl⟩ (by kernel_rfl) rfl
    (fun f fn hf hfn => by
      obtain rfl : f = 8 := Option.some.inj ((show Tryd.prog.funcNamed "ragpicker/ragpickerlaw07.FreesOnce" = some 8 by kernel_rfl).symm.trans hf) |>.symm
      obtain rfl : fn = Tryd.f8 := (Option.some.inj (Tryd.func8.symm.trans hfn)).symm
      exact ⟨by kernel_rfl, fun j t ht => by
        rw [Tryd.params8] at ht
        have hm : t ∈ [5, 39] := by simpa using Array.mem_of_getElem? ht
        have hall : ([5, 39].all fun u => !Tryd.prog.wantsStandIn u) = true := by kernel_rfl
        exact (show Tryd.prog.wantsStandIn t = false by simpa using List.all_eq_true.1 hall t hm)⟩)
    (by kernel_rfl)

#print axioms freesOnce_holds
end Go.Proofs.YtljeiencnpnbkaaDoor
