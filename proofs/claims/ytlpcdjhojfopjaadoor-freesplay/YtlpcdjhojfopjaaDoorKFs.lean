/-
  For all inputs, FreesPlay returns true; its arguments read as before. No condition.
-/
import Derived.Test.YtlpcdjhojfopjaaDoorEvDropK
import Derived.Test.YtlpcdjhojfopjaaDoorTie
import Derived.Test.YtlpcdjhojfopjaaDoorCards
import Derived.LaidMore
import Derived.ChangeMaps5
import Derived.OpenShut
import Derived.SevenTiedAt
set_option linter.unusedSimpArgs false
set_option linter.unusedVariables false
namespace Go.Proofs.YtlpcdjhojfopjaaDoor
open Go.Ev Go.ChangeShapes Go.WideShapes Go.ChangeAt Go.RowKit
set_option maxRecDepth 100000
section
variable (m : Nat) (f : Nat → Nat → AV) (q : Nat) (h : Nat → Nat → AV)
theorem fs_1 : (callF Efs 5000 3 [AV.ss 6 1 0 m none, AV.ss 4 2 0 q none] ⟨(tabsH [(0, tab)] ++ [(1, AO.arr 6 asSh true m f), (2, AO.arr 4 wSh true q h)]), 3, gnm 0, [Hint.b true], [], [], false⟩).map (fun x => (x.1, x.2.ob, noneIn (tabsH [(0, tab)] ++ [(1, AO.arr 6 asSh true m f), (2, AO.arr 4 wSh true q h)]) x.2.wr)) =
 some (AV.bool true, [TabIs tab (tabF tab),
 decide (Int.ofNat m > 300) = true], true) := by kernel_rfl
theorem fs_2 : (callF Efs 5000 3 [AV.ss 6 1 0 m none, AV.ss 4 2 0 q none] ⟨(tabsH [(0, tab)] ++ [(1, AO.arr 6 asSh true m f), (2, AO.arr 4 wSh true q h)]), 3, gnm 0, [Hint.b false, Hint.b true], [], [], false⟩).map (fun x => (x.1, x.2.ob, noneIn (tabsH [(0, tab)] ++ [(1, AO.arr 6 asSh true m f), (2, AO.arr 4 wSh true q h)]) x.2.wr)) =
 some (AV.bool true, [TabIs tab (tabF tab),
 decide (Int.ofNat q > 300) = true,
 decide (Int.ofNat m > 300) = false], true) := by kernel_rfl
theorem fs_3 : (callF Efs 5000 3 [AV.ss 6 1 0 m none, AV.ss 4 2 0 q none] ⟨(tabsH [(0, tab)] ++ [(1, AO.arr 6 asSh true m f), (2, AO.arr 4 wSh true q h)]), 3, gnm 0, [Hint.b false, Hint.b false, Hint.lp [0, 5, 6, 7] (Ex.exit 0) (fpX m f (fpN f h q m).S (fpN f h q m).R).tmps (fpX m f (fpN f h q m).S (fpN f h q m).R).hp.heap 10 [3, 4, 5, 6]], [], [], false⟩).map (fun x => (x.1, x.2.ob, noneIn (tabsH [(0, tab)] ++ [(1, AO.arr 6 asSh true m f), (2, AO.arr 4 wSh true q h)]) x.2.wr)) =
 some (AV.bool true, [TabIs tab (tabF tab),
 (fpN f h q m).R.D.n ≤ (fpN f h q m).R.D.n,
 (fpN f h q m).R.D.n ≤ 100000,
 FinM (fpN f h q m).S.M 1000000,
 wlF (fpN f h q m).S.M = rwl (dOf (fpN f h q m).R.D.n (wdF (fpN f h q m).R.D.W)) (fpN f h q m).R.D.n,
 fpLP m f q h,
 q ≤ q,
 q ≤ 300,
 ∀ (i : Nat), i < q → 0 ≤ avInt (h i 0),
 decide (Int.ofNat q > 300) = false,
 decide (Int.ofNat m > 300) = false], true) := by kernel_rfl
theorem fs_runs (hr : ∀ i, i < m → 0 ≤ avInt (f i 2) ∧ 0 ≤ avInt (f i 5) ∧ avInt (f i 5) < 18446744073709551616) (hh : ∀ i, i < q → 0 ≤ avInt (h i 0) ∧ 0 ≤ avInt (h i 3) ∧ avInt (h i 3) < 18446744073709551616) : Runs (fsRun m f q h) := by
  have hlp := fun h1 h2 => fp_lp m f q h h1 h2 hr (fun i hi => (hh i hi).2)
  have hE := fpN_ok (f := f) (h := h) (q := q) (msN_u q (fun i hi => (hh i hi).2)) m (fun k hk => (hr k hk).2)
  have hfine := hE.f.fine
  have hfin : m ≤ 300 → q ≤ 300 → FinM (fpN f h q m).S.M 1000000 := fun h1 h2 => hfine.fin.mono (by omega)
  have hw := wlF_rwl hfine.dd hfine.both.agr
  cases h1 : (decide (Int.ofNat m > 300)) with
  | true =>
    have g1 := of_decide_eq_true h1
    try simp only [Int.ofNat_eq_natCast, ge_iff_le, gt_iff_lt, Int.not_lt, Int.not_le] at g1
    refine ⟨_, _, _, fs_1 m f q h, .inl rfl, (ob_cons (tabIs_self _) (ob_cons h1 ob_nil))⟩
  | false =>
    have g1 := of_decide_eq_false h1
    try simp only [Int.ofNat_eq_natCast, ge_iff_le, gt_iff_lt, Int.not_lt, Int.not_le] at g1
    cases h2 : (decide (Int.ofNat q > 300)) with
    | true =>
      have g2 := of_decide_eq_true h2
      try simp only [Int.ofNat_eq_natCast, ge_iff_le, gt_iff_lt, Int.not_lt, Int.not_le] at g2
      refine ⟨_, _, _, fs_2 m f q h, .inl rfl, (ob_cons (tabIs_self _) (ob_cons h2 (ob_cons h1 ob_nil)))⟩
    | false =>
      have g2 := of_decide_eq_false h2
      try simp only [Int.ofNat_eq_natCast, ge_iff_le, gt_iff_lt, Int.not_lt, Int.not_le] at g2
      refine ⟨_, _, _, fs_3 m f q h, .inl rfl, (ob_cons (tabIs_self _) (ob_cons (Nat.le_refl _) (ob_cons ?_ (ob_cons ?_ (ob_cons ?_ (ob_cons ?_ (ob_cons (Nat.le_refl _) (ob_cons ?_ (ob_cons ?_ (ob_cons h2 (ob_cons h1 ob_nil)))))))))))⟩
      ·
        first | exact hlp (by omega) (by omega) | exact hfin (by omega) (by omega) | exact hw | exact hwb | exact fun i hi => (hh i hi).1 | exact tabIs_self _ | (have := hfine.num; omega) | omega | (simp; done) | exact Nat.le_refl _ | omega
      ·
        first | exact hlp (by omega) (by omega) | exact hfin (by omega) (by omega) | exact hw | exact hwb | exact fun i hi => (hh i hi).1 | exact tabIs_self _ | (have := hfine.num; omega) | omega | (simp; done) | trivial
      ·
        first | exact hlp (by omega) (by omega) | exact hfin (by omega) (by omega) | exact hw | exact hwb | exact fun i hi => (hh i hi).1 | exact tabIs_self _ | (have := hfine.num; omega) | omega | (simp; done) | rfl
      ·
        first | exact hlp (by omega) (by omega) | exact hfin (by omega) (by omega) | exact hw | exact hwb | exact fun i hi => (hh i hi).1 | exact tabIs_self _ | (have := hfine.num; omega) | omega | (simp; done) | trivial
      ·
        first | exact hlp (by omega) (by omega) | exact hfin (by omega) (by omega) | exact hw | exact hwb | exact fun i hi => (hh i hi).1 | exact tabIs_self _ | (have := hfine.num; omega) | omega | (simp; done) | exact Nat.le_refl _ | omega
      ·
        first | exact hlp (by omega) (by omega) | exact hfin (by omega) (by omega) | exact hw | exact hwb | exact fun i hi => (hh i hi).1 | exact tabIs_self _ | (have := hfine.num; omega) | omega | (simp; done) | exact fun _ => rfl
end
theorem hown : ownKnob Tryd.prog.godebug = none := by kernel_rfl
theorem hlaidOut : laidOutB Tryd.prog = true := by kernel_rfl
theorem k38 : flatK Tryd.prog 4 38 = some asSh := by kernel_rfl
theorem k36 : flatK Tryd.prog 4 36 = some wSh := by kernel_rfl
theorem freesPlay_tabs : TabsOk Tryd.prog [("ragpicker/words.fields", Rows.laid_ragpicker_words_fields)] [(0, tab)] := tabsOkB_ok (by kernel_rfl)
set_option maxRecDepth 100000 in
theorem freesPlay_runs : LawRunsT Tryd.prog 3 [22, 23] [(0, tab)] := by
  intro H enc W base args ds p hval hA htab
  obtain ⟨v0, v1, d0, d1, p0, p1, hargs, rfl, rfl, h0, h1⟩ := trodAll_two (args := args.toArray) hA
  obtain rfl : args = [v0, v1] := by simpa using congrArg Array.toList hargs
  obtain ⟨fuel0, h0⟩ := h0
  obtain ⟨c0, l0, q0, rfl⟩ := okWide_slice Tryd.underlying22 (hval 0 22 v0 rfl rfl)
  obtain ⟨L0, len0, num0, bit0, hw0, hs0, hl0, hm0, hn0, hob0, hwf0⟩ := open_rows Tryd.underlying22 k38 (by kernel_rfl) (by decide) (okWide_spot Tryd.underlying22 (hval 0 22 _ rfl rfl)) (by simpa [Value.cells] using h0)
  have hs0 : L0.slice 6 0 len0 none = some (.slice c0 l0 q0) := hs0
  obtain ⟨fuel1, h1⟩ := h1
  obtain ⟨c1, l1, q1, rfl⟩ := okWide_slice Tryd.underlying23 (hval 1 23 v1 rfl rfl)
  obtain ⟨L1, len1, num1, bit1, hw1, hs1, hl1, hm1, hn1, hob1, hwf1⟩ := open_rows Tryd.underlying23 k36 (by kernel_rfl) (by decide) (okWide_spot Tryd.underlying23 (hval 1 23 _ rfl rfl)) (by simpa [Value.cells] using h1)
  have hs1 : L1.slice 4 0 len1 none = some (.slice c1 l1 q1) := hs1
  obtain ⟨h, x, ob, hr, hx, hob⟩ := fs_runs len0 (rowAV asSh num0 bit0) len1 (rowAV wSh num1 bit1) (fun i hi => ⟨(u8_range (hwf0 i hi 2 .u8 rfl)).1, (u64_range (hwf0 i hi 5 .u64 rfl)).1, (u64_range (hwf0 i hi 5 .u64 rfl)).2⟩) (fun i hi => ⟨(u8_range (hwf1 i hi 0 .u8 rfl)).1, (u64_range (hwf1 i hi 3 .u64 rfl)).1, (u64_range (hwf1 i hi 3 .u64 rfl)).2⟩)
  have e0 : inpT [(1, L0), (2, L1)] [(0, tab)] 1 = some L0 := inpT_of rfl
  have e1 : inpT [(1, L0), (2, L1)] [(0, tab)] 2 = some L1 := inpT_of rfl
  exact run_lawG (W := W) (ρ := inpT [(1, L0), (2, L1)] [(0, tab)]) Efs_ok hr hx hob (heapRepT (heap := [(1, .arr 6 asSh true len0 (rowAV asSh num0 bit0)), (2, .arr 4 wSh true len1 (rowAV wSh num1 bit1))]) (ls := [(1, L0), (2, L1)]) (tabs := [(0, tab)]) (nxt := 3) rfl (by decide) rfl htab (rep_cons rfl rfl hob0 (rep_cons rfl rfl hob1 rep_nil))) (xs := [.slice c0 l0 q0, .slice c1 l1 q1])
    (by simp [denL, den, e0, hs0, e1, hs1]) (inpT_fresh (nxt := 3) rfl (Nat.le_refl _)) (inpT_glob (nxt := 3) rfl (by decide))

theorem freesPlay_met (os : Os) (args : Array Value) : laidMetH Tryd.prog [("ragpicker/words.fields", Rows.laid_ragpicker_words_fields)] ((World.doorLaid Tryd.prog 400 os).forCall (fun _ _ => 0) ⟨#[], args, []⟩).memory :=
  laidMetH_of_parts3 (fuel := 8) (laidMet_of_run' 8 (by kernel_rfl) (by kernel_rfl)) (by kernel_rfl) (by kernel_rfl)
set_option maxRecDepth 100000 in
theorem freesPlay_lifted (os : Os) (started : os.Started) (H : Type) (enc : TypeId × Value → H) :
    ReturnsInHanded {} Tryd.checked os 3 .any (fun w args => (Rows.freesPlaySpec.pre enc Tryd.prog Tryd.f3 [] false w args ∧ laidMetH Tryd.prog [("ragpicker/words.fields", Rows.laid_ragpicker_words_fields)] w) ∧ sizedMet enc Tryd.prog Tryd.f3 (OpenSpec.ofChange Rows.freesPlaySpec) false w args)
      (Rows.freesPlaySpec.post enc Tryd.prog Tryd.f3 false true false false) := by
  refine returnsInHanded_of_change_and (C := Tryd.checked) (X := fun w _ => laidMetH Tryd.prog [("ragpicker/words.fields", Rows.laid_ragpicker_words_fields)] w) (fun _ _ _ hh h => h.of_heap hh) hown started (by kernel_rfl) Tryd.func3
    (ChangeSpec.witness_shaped (enc := enc) (C := Tryd.checked) (os := os) (X := fun w _ => laidMetH Tryd.prog [("ragpicker/words.fields", Rows.laid_ragpicker_words_fields)] w) false (World.doorLaid Tryd.prog 400 os) #[.slice none 0 0, .slice none 0 0] 8 rfl (World.shaped_of_RefB (by kernel_rfl) (by kernel_rfl)) (by kernel_rfl) (by kernel_rfl) (by kernel_rfl) (freesPlay_met os _)) ?_
  intro W base args ds gs before hval0 hW _ _ hL _
  exact law_contractT Tryd.params3 freesPlay_runs hlaidOut (of_decide_eq_true (by kernel_rfl)) (by kernel_rfl) Tryd.underlying4 rfl
    (fun ds hl => by match ds, hl with | [d0, d1], _ => exact ⟨rfl, rfl, rfl⟩) W base args ds gs before hval0 hW (tabs_laid (by kernel_rfl) freesPlay_tabs hL)

theorem freesPlay_row : Rows.FreesPlaySaid :=
  OpenClaim.holds_of_wide 3 Tryd.f3 rfl rfl rfl rfl rfl rfl rfl ⟨rfl, rfl, rfl, rfl, rfl⟩ rfl rfl rfl rfl rfl (by kernel_rfl) Tryd.func3 (by kernel_rfl)
    (of_decide_eq_true (by kernel_rfl)) (by unfold Func.isWrapper; first | (rw [if_pos (by decide +kernel)]; kernel_rfl) | (rw [if_neg (by decide +kernel)]; exact ⟨rfl, rfl⟩))
    (fun os started H enc _ => freesPlay_lifted os started H enc)

theorem freesPlay_holds : Rows.FreesPlayCardSaid :=
  Claim7.holds_tied_plain_at .later [] [.data] true (true, "5f74abeffb16dd3425a6449224cbb59dc87c6caf86206be3ef0a1fc8a719a9d8") true freesPlay_row (fun _ h => by cases h) (by kernel_rfl) (fun _ h => by cases h) freesPlay_row_tie rfl ⟨rfl, rfl⟩ (by kernel_rfl) rfl
    (fun f fn hf hfn => by
      obtain rfl : f = 3 := Option.some.inj ((show Tryd.prog.funcNamed "ragpicker/ragpickerlaw07.FreesPlay" = some 3 by kernel_rfl).symm.trans hf) |>.symm
      obtain rfl : fn = Tryd.f3 := (Option.some.inj (Tryd.func3.symm.trans hfn)).symm
      exact ⟨by kernel_rfl, fun j t ht => by
        rw [Tryd.params3] at ht
        have hm : t ∈ [22, 23] := by simpa using Array.mem_of_getElem? ht
        have hall : ([22, 23].all fun u => !Tryd.prog.wantsStandIn u) = true := by kernel_rfl
        exact (show Tryd.prog.wantsStandIn t = false by simpa using List.all_eq_true.1 hall t hm)⟩)
    (by kernel_rfl)

#print axioms freesPlay_holds
end Go.Proofs.YtlpcdjhojfopjaaDoor
