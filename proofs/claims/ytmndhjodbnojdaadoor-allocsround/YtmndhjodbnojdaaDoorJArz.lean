/-
  For all inputs, AllocsRound returns true; its argument reads as before. No condition.
-/
import Derived.Test.YtmndhjodbnojdaaDoorJArzDef
import Derived.Test.YtmndhjodbnojdaaDoorTie
import Derived.Test.YtmndhjodbnojdaaDoorCards
import Derived.LaidMore
import Derived.ChangeMaps5
import Derived.OpenShut
import Derived.SevenTiedAt
set_option linter.unusedSimpArgs false
set_option linter.unusedVariables false
namespace Go.Proofs.YtmndhjodbnojdaaDoor
open Go.Ev Go.ChangeShapes Go.WideShapes Go.ChangeAt Go.RowKit
set_option maxRecDepth 100000
theorem arz_1 (g : Int) : (callF EAz 6000 9 [AV.sym IntKind.u8 g] ⟨(tabsH [(0, tab)]), 1, gnm 0, [Hint.a AV.top, Hint.n 0, Hint.n 0, Hint.n 0, Hint.n 0, Hint.n 0, Hint.n 0, Hint.n 0, Hint.lp [2, 3, 4, 5, 7] (Ex.exit 2) (arlX (IntKind.u32.wrap (g.tmod 50)) ((IntKind.u32.wrap (g.tmod 50)).toNat + 1)).tmps (arlX (IntKind.u32.wrap (g.tmod 50)) ((IntKind.u32.wrap (g.tmod 50)).toNat + 1)).hp.heap 3 [1, 2], Hint.n 1, Hint.b true, Hint.b true], [], [], false⟩).map (fun x => (x.1, x.2.ob, noneIn (tabsH [(0, tab)]) x.2.wr)) =
 some (AV.bool true, [TabIs tab (tabF tab),
 (mget (ppS1 (arM (IntKind.u32.wrap (g.tmod 50)) ((IntKind.u32.wrap (g.tmod 50)).toNat + 1))).M (key 6 0 1) == 1) = true,
 (!false) = true,
 tabF tab = tabF tab,
 MnOk (arM (IntKind.u32.wrap (g.tmod 50)) ((IntKind.u32.wrap (g.tmod 50)).toNat + 1)),
 arlLP (IntKind.u32.wrap (g.tmod 50)),
 tabF tab = tabF tab,
 MdOk (mdX (mdX (mdX (mdX (mdX (mdX (bmX 1))))))),
 tabF tab = tabF tab,
 MdOk (mdX (mdX (mdX (mdX (mdX (bmX 1)))))),
 tabF tab = tabF tab,
 MdOk (mdX (mdX (mdX (mdX (bmX 1))))),
 tabF tab = tabF tab,
 MdOk (mdX (mdX (mdX (bmX 1)))),
 tabF tab = tabF tab,
 MdOk (mdX (mdX (bmX 1))),
 tabF tab = tabF tab,
 MdOk (mdX (bmX 1)),
 tabF tab = tabF tab,
 MdOk (bmX 1),
 tabF tab = tabF tab,
 (0 : Int) ≤ (1 : Int),
 (1 : Int) ≤ (32 : Int)], true) := by kernel_rfl
theorem ar_runs (g : Int) (hr : 0 ≤ g ∧ g < 256) : Runs (arRun g) := by
  have hm : 0 ≤ g.tmod 50 ∧ g.tmod 50 < 50 := by rw [Int.tmod_eq_emod_of_nonneg hr.1]; omega
  have hw : IntKind.u32.wrap (g.tmod 50) = g.tmod 50 := by show g.tmod 50 % 4294967296 = _; omega
  have hw0 : 0 ≤ IntKind.u32.wrap (g.tmod 50) := by rw [hw]; exact hm.1
  have hw1 : IntKind.u32.wrap (g.tmod 50) < 50 := by rw [hw]; exact hm.2
  have hlp : arlLP (IntKind.u32.wrap (g.tmod 50)) := arl_lp _ hw0 hw1
  have hR := (arM_ar hw1 (IntKind.u32.wrap (g.tmod 50)).toNat (by omega)).round (by omega) (by omega)
  have hE : arM (IntKind.u32.wrap (g.tmod 50)) ((IntKind.u32.wrap (g.tmod 50)).toNat + 1) = go5 (arM (IntKind.u32.wrap (g.tmod 50)) (IntKind.u32.wrap (g.tmod 50)).toNat) := arM_g (by omega)
  have hgn : MnOk (arM (IntKind.u32.wrap (g.tmod 50)) ((IntKind.u32.wrap (g.tmod 50)).toNat + 1)) := by rw [hE]; exact hR.gn
  have hgk : mget (arM (IntKind.u32.wrap (g.tmod 50)) ((IntKind.u32.wrap (g.tmod 50)).toNat + 1)).M (key 6 0 1) = 1 := by rw [hE]; exact hR.gk
  have hgk2 : mget (ppS1 (arM (IntKind.u32.wrap (g.tmod 50)) ((IntKind.u32.wrap (g.tmod 50)).toNat + 1))).M (key 6 0 1) = 1 := by
    have e : ∀ S, mget (ppS1 S).M (key 6 0 1) = mget S.M (key 6 0 1) := fun S => by unfold ppS1; exact popY_get (by decide)
    rw [e]; exact hgk
  have hgk3 := eqT hgk2
  refine ⟨_, _, _, arz_1 g, .inl rfl, (ob_cons (tabIs_self _) (ob_cons ?_ (ob_cons ?_ (ob_cons rfl (ob_cons ?_ (ob_cons ?_ (ob_cons rfl (ob_cons ?_ (ob_cons rfl (ob_cons ?_ (ob_cons rfl (ob_cons ?_ (ob_cons rfl (ob_cons ?_ (ob_cons rfl (ob_cons ?_ (ob_cons rfl (ob_cons ?_ (ob_cons rfl (ob_cons ?_ (ob_cons rfl (ob_cons (by decide) (ob_cons (by decide) ob_nil)))))))))))))))))))))))⟩
  ·
    first | with_reducible assumption | exact rfl | exact tabIs_self _ | exact hlp | exact arB_is.m0 | exact arB_is.m1 | exact arB_is.m2 | exact arB_is.m3 | exact arB_is.m4 | exact arB_is.m5 | exact arB_is.m6 | exact hgn | exact eqT hgk | exact hgk2 | (simp; done) | omega | (apply Nat.ble_eq_true_of_le; omega) | (simp [Nat.blt_eq]; omega)
  ·
    first | with_reducible assumption | exact rfl | exact tabIs_self _ | exact hlp | exact arB_is.m0 | exact arB_is.m1 | exact arB_is.m2 | exact arB_is.m3 | exact arB_is.m4 | exact arB_is.m5 | exact arB_is.m6 | exact hgn | exact eqT hgk | exact hgk2 | (simp; done) | omega | (apply Nat.ble_eq_true_of_le; omega) | (simp [Nat.blt_eq]; omega)
  ·
    first | with_reducible assumption | exact rfl | exact tabIs_self _ | exact hlp | exact arB_is.m0 | exact arB_is.m1 | exact arB_is.m2 | exact arB_is.m3 | exact arB_is.m4 | exact arB_is.m5 | exact arB_is.m6 | exact hgn | exact eqT hgk | exact hgk2 | (simp; done) | omega | trivial
  ·
    first | with_reducible assumption | exact rfl | exact tabIs_self _ | exact hlp | exact arB_is.m0 | exact arB_is.m1 | exact arB_is.m2 | exact arB_is.m3 | exact arB_is.m4 | exact arB_is.m5 | exact arB_is.m6 | exact hgn | exact eqT hgk | exact hgk2 | (simp; done) | omega | trivial
  ·
    first | with_reducible assumption | exact rfl | exact tabIs_self _ | exact hlp | exact arB_is.m0 | exact arB_is.m1 | exact arB_is.m2 | exact arB_is.m3 | exact arB_is.m4 | exact arB_is.m5 | exact arB_is.m6 | exact hgn | exact eqT hgk | exact hgk2 | (simp; done) | omega | trivial
  ·
    first | with_reducible assumption | exact rfl | exact tabIs_self _ | exact hlp | exact arB_is.m0 | exact arB_is.m1 | exact arB_is.m2 | exact arB_is.m3 | exact arB_is.m4 | exact arB_is.m5 | exact arB_is.m6 | exact hgn | exact eqT hgk | exact hgk2 | (simp; done) | omega | trivial
  ·
    first | with_reducible assumption | exact rfl | exact tabIs_self _ | exact hlp | exact arB_is.m0 | exact arB_is.m1 | exact arB_is.m2 | exact arB_is.m3 | exact arB_is.m4 | exact arB_is.m5 | exact arB_is.m6 | exact hgn | exact eqT hgk | exact hgk2 | (simp; done) | omega | trivial
  ·
    first | with_reducible assumption | exact rfl | exact tabIs_self _ | exact hlp | exact arB_is.m0 | exact arB_is.m1 | exact arB_is.m2 | exact arB_is.m3 | exact arB_is.m4 | exact arB_is.m5 | exact arB_is.m6 | exact hgn | exact eqT hgk | exact hgk2 | (simp; done) | omega | trivial
  ·
    first | with_reducible assumption | exact rfl | exact tabIs_self _ | exact hlp | exact arB_is.m0 | exact arB_is.m1 | exact arB_is.m2 | exact arB_is.m3 | exact arB_is.m4 | exact arB_is.m5 | exact arB_is.m6 | exact hgn | exact eqT hgk | exact hgk2 | (simp; done) | omega | trivial
  ·
    first | with_reducible assumption | exact rfl | exact tabIs_self _ | exact hlp | exact arB_is.m0 | exact arB_is.m1 | exact arB_is.m2 | exact arB_is.m3 | exact arB_is.m4 | exact arB_is.m5 | exact arB_is.m6 | exact hgn | exact eqT hgk | exact hgk2 | (simp; done) | omega | trivial
  ·
    first | with_reducible assumption | exact rfl | exact tabIs_self _ | exact hlp | exact arB_is.m0 | exact arB_is.m1 | exact arB_is.m2 | exact arB_is.m3 | exact arB_is.m4 | exact arB_is.m5 | exact arB_is.m6 | exact hgn | exact eqT hgk | exact hgk2 | (simp; done) | omega | trivial
theorem hown : ownKnob Tryd.prog.godebug = none := by kernel_rfl
theorem hlaidOut : laidOutB Tryd.prog = true := by kernel_rfl
theorem allocsRound_tabs : TabsOk Tryd.prog [("ragpicker/words.fields", Rows.laid_ragpicker_words_fields)] [(0, tab)] := tabsOkB_ok (by kernel_rfl)
set_option maxRecDepth 100000 in
theorem allocsRound_runs : LawRunsT Tryd.prog 9 [5] [(0, tab)] := by
  intro H enc W base args ds p hval hA htab
  obtain ⟨v0, d0, hargs, rfl, h0⟩ := trodAll_one (args := args.toArray) hA
  obtain rfl : args = [v0] := by simpa using congrArg Array.toList hargs
  obtain ⟨g, rfl, rg⟩ := okWide_num Tryd.underlying5 (hval 0 5 v0 rfl rfl)
  obtain ⟨h, x, ob, hr, hx, hob⟩ := ar_runs g (u8_range rg)
  exact run_lawG (W := W) (ρ := inpT [] [(0, tab)]) EAz_ok hr hx hob (heapRepT (heap := []) (ls := []) (tabs := [(0, tab)]) (nxt := 1) rfl (by decide) rfl htab rep_nil) (xs := [.int .u8 g])
    (by simp [denL, den]) (inpT_fresh (nxt := 1) rfl (Nat.le_refl _)) (inpT_glob (nxt := 1) rfl (by decide))

theorem allocsRound_met (os : Os) (args : Array Value) : laidMetH Tryd.prog [("ragpicker/words.fields", Rows.laid_ragpicker_words_fields)] ((World.doorLaid Tryd.prog 400 os).forCall (fun _ _ => 0) ⟨#[], args, []⟩).memory :=
  laidMetH_of_parts3 (fuel := 8) (laidMet_of_run' 8 (by kernel_rfl) (by kernel_rfl)) (by kernel_rfl) (by kernel_rfl)
set_option maxRecDepth 100000 in
theorem allocsRound_lifted (os : Os) (started : os.Started) (H : Type) (enc : TypeId × Value → H) :
    ReturnsInHanded {} Tryd.checked os 9 .any (fun w args => (Rows.allocsRoundSpec.pre enc Tryd.prog Tryd.f9 [] false w args ∧ laidMetH Tryd.prog [("ragpicker/words.fields", Rows.laid_ragpicker_words_fields)] w) ∧ sizedMet enc Tryd.prog Tryd.f9 (OpenSpec.ofChange Rows.allocsRoundSpec) false w args)
      (Rows.allocsRoundSpec.post enc Tryd.prog Tryd.f9 false true false false) := by
  refine returnsInHanded_of_change_and (C := Tryd.checked) (X := fun w _ => laidMetH Tryd.prog [("ragpicker/words.fields", Rows.laid_ragpicker_words_fields)] w) (fun _ _ _ hh h => h.of_heap hh) hown started (by kernel_rfl) Tryd.func9
    (ChangeSpec.witness_shaped (enc := enc) (C := Tryd.checked) (os := os) (X := fun w _ => laidMetH Tryd.prog [("ragpicker/words.fields", Rows.laid_ragpicker_words_fields)] w) false (World.doorLaid Tryd.prog 400 os) #[.int .u8 0] 8 rfl (World.shaped_of_RefB (by kernel_rfl) (by kernel_rfl)) (by kernel_rfl) (by kernel_rfl) (by kernel_rfl) (allocsRound_met os _)) ?_
  intro W base args ds gs before hval0 hW _ _ hL _
  exact law_contractT Tryd.params9 allocsRound_runs hlaidOut (of_decide_eq_true (by kernel_rfl)) (by kernel_rfl) Tryd.underlying4 rfl
    (fun ds hl => by match ds, hl with | [d0], _ => exact ⟨rfl, rfl, rfl⟩) W base args ds gs before hval0 hW (tabs_laid (by kernel_rfl) allocsRound_tabs hL)

theorem allocsRound_row : Rows.AllocsRoundSaid :=
  OpenClaim.holds_of_wide 9 Tryd.f9 rfl rfl rfl rfl rfl rfl rfl ⟨rfl, rfl, rfl, rfl, rfl⟩ rfl rfl rfl rfl rfl (by kernel_rfl) Tryd.func9 (by kernel_rfl)
    (of_decide_eq_true (by kernel_rfl)) (by unfold Func.isWrapper; first | (rw [if_pos (by decide +kernel)]; kernel_rfl) | (rw [if_neg (by decide +kernel)]; exact ⟨rfl, rfl⟩))
    (fun os started H enc _ => allocsRound_lifted os started H enc)

theorem allocsRound_holds : Rows.AllocsRoundCardSaid :=
  Claim7.holds_tied_plain_at .later [] [.data] true (true, "9d093ca4ff3baad62d12e56c880e18e1afdaedaaab76b1b6bc1172113a6b8a5e") true allocsRound_row (fun _ h => by cases h) (by kernel_rfl) (fun _ h => by cases h) allocsRound_row_tie rfl ⟨rfl, rfl⟩ (by kernel_rfl) rfl
    (fun f fn hf hfn => by
      obtain rfl : f = 9 := Option.some.inj ((show Tryd.prog.funcNamed "ragpicker/ragpickerlaw08.AllocsRound" = some 9 by kernel_rfl).symm.trans hf) |>.symm
      obtain rfl : fn = Tryd.f9 := (Option.some.inj (Tryd.func9.symm.trans hfn)).symm
      exact ⟨by kernel_rfl, fun j t ht => by
        rw [Tryd.params9] at ht
        have hm : t ∈ [5] := by simpa using Array.mem_of_getElem? ht
        have hall : ([5].all fun u => !Tryd.prog.wantsStandIn u) = true := by kernel_rfl
        exact (show Tryd.prog.wantsStandIn t = false by simpa using List.all_eq_true.1 hall t hm)⟩)
    (by kernel_rfl)

#print axioms allocsRound_holds
end Go.Proofs.YtmndhjodbnojdaaDoor
