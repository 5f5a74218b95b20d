/-
  For all inputs, OrphansRound returns true; its argument reads as before. No condition.
-/
import Derived.Test.YtmndhjodbnojdaaDoorJRzDef
import Derived.Test.YtmndhjodbnojdaaDoorTie
import Derived.Test.YtmndhjodbnojdaaDoorCards
import Derived.LaidMore
import Derived.ChangeMaps5
import Derived.OpenShut
import Derived.SevenTiedAt
set_option linter.unusedSimpArgs false
set_option linter.unusedVariables false
namespace Go.Proofs.YtmndhjodbnojdaaDoor
open Go.Ev Go.ChangeShapes Go.WideShapes Go.ChangeAt Go.RowKit
set_option maxRecDepth 100000
theorem rza_1 (m : Nat) (f : Nat → Nat → AV) : (callF EOy 6000 8 [AV.ss 1 1 0 m none] ⟨(tabsH [(0, tab)] ++ [(1, AO.arr 1 [CK.int IntKind.u8] true m f)]), 2, gnm 0, [Hint.b true], [], [], false⟩).map (fun x => (x.1, x.2.ob, noneIn (tabsH [(0, tab)] ++ [(1, AO.arr 1 [CK.int IntKind.u8] true m f)]) x.2.wr)) =
 some (AV.bool true, [TabIs tab (tabF tab),
 (Int.ofNat m == 0) = true], true) := by kernel_rfl
theorem rzb_1 (m : Nat) (f : Nat → Nat → AV) : (callF EOy 6000 8 [AV.ss 1 1 0 m none] ⟨(tabsH [(0, tab)] ++ [(1, AO.arr 1 [CK.int IntKind.u8] true m f)]), 2, gnm 0, [Hint.b false, Hint.b true], [], [], false⟩).map (fun x => (x.1, x.2.ob, noneIn (tabsH [(0, tab)] ++ [(1, AO.arr 1 [CK.int IntKind.u8] true m f)]) x.2.wr)) =
 some (AV.bool true, [TabIs tab (tabF tab),
 decide (Int.ofNat m > 20) = true,
 (Int.ofNat m == 0) = false], true) := by kernel_rfl
theorem rzc_1 (m : Nat) (f : Nat → Nat → AV) : (callF EOy 6000 8 [AV.ss 1 1 0 m none] ⟨(tabsH [(0, tab)] ++ [(1, AO.arr 1 [CK.int IntKind.u8] true m f)]), 2, gnm 0, [Hint.b false, Hint.b false, Hint.a AV.top, Hint.lp [0, 3, 4] (Ex.exit 0) (orsX m f m).tmps (orsX m f m).hp.heap 9 [3, 4, 5, 8], Hint.lp [3, 6, 7] (Ex.exit 2) (ormX m f (orS0 m f) (orR0 m f) 1282).tmps (ormX m f (orS0 m f) (orR0 m f) 1282).hp.heap 1841282216941579801882419204465524523121861150899223944084351394554075260477629437121839426933321088397373759821752539942684706807060533592497296769030 [1841282216941579801882419204465524523121861150899223944084351394554075260477629437121839426933321088397373759821752539942684706807060533592497296769024, 1841282216941579801882419204465524523121861150899223944084351394554075260477629437121839426933321088397373759821752539942684706807060533592497296769025, 1841282216941579801882419204465524523121861150899223944084351394554075260477629437121839426933321088397373759821752539942684706807060533592497296769027, 1841282216941579801882419204465524523121861150899223944084351394554075260477629437121839426933321088397373759821752539942684706807060533592497296769028, 1841282216941579801882419204465524523121861150899223944084351394554075260477629437121839426933321088397373759821752539942684706807060533592497296769029, 1636695303948070935006594848413799576108321023021532394741645684048066898202337277441635046162952078575443342063780035504608628272942696526664263794689], Hint.b true, Hint.b false, Hint.b false, Hint.b true], [], [], false⟩).map (fun x => (x.1, x.2.ob, noneIn (tabsH [(0, tab)] ++ [(1, AO.arr 1 [CK.int IntKind.u8] true m f)]) x.2.wr)) =
 some (AV.bool true, [TabIs tab (tabF tab),
 decide (Int.ofNat ((tkIt (orS0 m f) 1282).n - 0) ≤ 256) = true,
 (Nat.blt 0 (capOr (some (tkIt (orS0 m f) 1282).n) (tkIt (orS0 m f) 1282).n) || Nat.beq 0 0) = true,
 ((tkIt (orS0 m f) 1282).n.ble (capOr (some (tkIt (orS0 m f) 1282).n) (tkIt (orS0 m f) 1282).n) && decide (0 ≤ Int.ofNat (tkIt (orS0 m f) 1282).n)) = true,
 ((tkIt (orS0 m f) 1282).n.ble (capOr none (tkIt (orS0 m f) 1282).n) && decide (0 ≤ Int.ofNat (tkIt (orS0 m f) 1282).n)) = true,
 (tkIt (orS0 m f) 1282).n.beq 0 = false,
 ((tkIt (orS0 m f) 1282).n * 40).ble 70368744177664 = true,
 (0 + (tkIt (orS0 m f) 1282).n).ble (tkIt (orS0 m f) 1282).n = true,
 Nat.blt 0 (tkIt (orS0 m f) 1282).n = true,
 (!(tkIt (orS0 m f) 1282).o.ln == 0) = false,
 ((tkIt (orS0 m f) 1282).o.ln == 0) = true,
 ormLP m f (orS0 m f) (orR0 m f),
 (orR m f m).D.n ≤ (orR m f m).D.n,
 (orR m f m).D.n ≤ 100000,
 (0 : Int) ≤ (4 : Int),
 Nat.blt 0 m = true,
 (Nat.blt (0 : Nat) m && decide ((0 : Int) ≤ (0 : Int))) = true,
 orsLP m f,
 decide (Int.ofNat m > 20) = false,
 (Int.ofNat m == 0) = false], true) := by kernel_rfl
theorem rd_runs (m : Nat) (f : Nat → Nat → AV) (hr : ∀ i, i < m → 0 ≤ avInt (f i 0) ∧ avInt (f i 0) < 256) : Runs (rdRun m f) := by
  by_cases h0 : m = 0
  · have hz : (Int.ofNat m == 0) = true := by rw [h0]; rfl
    refine ⟨_, _, _, rza_1 m f, .inl rfl, (ob_cons (tabIs_self _) (ob_cons ?_ ob_nil))⟩
    ·
      first | with_reducible assumption | exact rfl | exact tabIs_self _ | exact hlp | exact hlm | exact hb0 | exact hn0 | exact hv | exact hz | (rw [hN]; rfl) | (rw [hN]; decide) | (rw [hN]; simp [capOr]; done) | exact notE2 hov | exact decide_eq_true hov | exact Nat.le_refl _ | (simp; done) | (simp; omega) | omega | (apply Nat.ble_eq_true_of_le; omega) | (simp [Nat.blt_eq]; omega)
  have hz : (Int.ofNat m == 0) = false := eqF (by show ¬ (m : Int) = 0; omega)
  by_cases h2 : (m : Int) > 20
  · have hv : decide (Int.ofNat m > 20) = true := decide_eq_true h2
    refine ⟨_, _, _, rzb_1 m f, .inl rfl, (ob_cons (tabIs_self _) (ob_cons ?_ (ob_cons ?_ ob_nil)))⟩
    ·
      first | with_reducible assumption | exact rfl | exact tabIs_self _ | exact hlp | exact hlm | exact hb0 | exact hn0 | exact hv | exact hz | (rw [hN]; rfl) | (rw [hN]; decide) | (rw [hN]; simp [capOr]; done) | exact notE2 hov | exact decide_eq_true hov | exact Nat.le_refl _ | (simp; done) | (simp; omega) | omega | (apply Nat.ble_eq_true_of_le; omega) | (simp [Nat.blt_eq]; omega)
    ·
      first | with_reducible assumption | exact rfl | exact tabIs_self _ | exact hlp | exact hlm | exact hb0 | exact hn0 | exact hv | exact hz | (rw [hN]; rfl) | (rw [hN]; decide) | (rw [hN]; simp [capOr]; done) | exact notE2 hov | exact decide_eq_true hov | exact Nat.le_refl _ | (simp; done) | (simp; omega) | omega | (apply Nat.ble_eq_true_of_le; omega) | (simp [Nat.blt_eq]; omega)
  have hv : decide (Int.ofNat m > 20) = false := decide_eq_false h2
  have hm0 : 0 < m := by omega
  have hm : m ≤ 20 := by omega
  obtain ⟨hrg, hbo, hdn⟩ := or_rg hr hm0 hm
  have he := rg_end hrg
  have hlp := ors_lp m f hm hm0
  have hlm := orm_lp m f _ _ hrg.u hbo hdn he
  have hov : (tkIt (orS0 m f) 1282).o.ln = 0 := he.ov
  have hN : (tkIt (orS0 m f) 1282).n = 256 := he.n
  have hn0 : (orR m f m).D.n ≤ 100000 := by have := or_n m f m; omega
  have g1 := eqT hov
  have g2 := notE' hov
  refine ⟨_, _, _, rzc_1 m f, .inl rfl, (ob_cons (tabIs_self _) (ob_cons ?_ (ob_cons ?_ (ob_cons ?_ (ob_cons ?_ (ob_cons ?_ (ob_cons ?_ (ob_cons ?_ (ob_cons ?_ (ob_cons ?_ (ob_cons ?_ (ob_cons ?_ (ob_cons (Nat.le_refl _) (ob_cons ?_ (ob_cons (by decide) (ob_cons ?_ (ob_cons ?_ (ob_cons ?_ (ob_cons ?_ (ob_cons ?_ ob_nil))))))))))))))))))))⟩
  ·
    first | with_reducible assumption | exact rfl | exact tabIs_self _ | exact hlp | exact hlm | exact hb0 | exact hn0 | exact hv | exact hz | (rw [hN]; rfl) | (rw [hN]; decide) | (rw [hN]; simp [capOr]; done) | exact notE2 hov | exact decide_eq_true hov | exact Nat.le_refl _ | (simp; done) | (simp; omega) | omega | (apply Nat.ble_eq_true_of_le; omega) | (simp [Nat.blt_eq]; omega)
  ·
    first | with_reducible assumption | exact rfl | exact tabIs_self _ | exact hlp | exact hlm | exact hb0 | exact hn0 | exact hv | exact hz | (rw [hN]; rfl) | (rw [hN]; decide) | (rw [hN]; simp [capOr]; done) | exact notE2 hov | exact decide_eq_true hov | exact Nat.le_refl _ | (simp; done) | (simp; omega) | omega | (apply Nat.ble_eq_true_of_le; omega) | (simp [Nat.blt_eq]; omega)
  ·
    first | with_reducible assumption | exact rfl | exact tabIs_self _ | exact hlp | exact hlm | exact hb0 | exact hn0 | exact hv | exact hz | (rw [hN]; rfl) | (rw [hN]; decide) | (rw [hN]; simp [capOr]; done) | exact notE2 hov | exact decide_eq_true hov | exact Nat.le_refl _ | (simp; done) | (simp; omega) | omega | (apply Nat.ble_eq_true_of_le; omega) | (simp [Nat.blt_eq]; omega)
  ·
    first | with_reducible assumption | exact rfl | exact tabIs_self _ | exact hlp | exact hlm | exact hb0 | exact hn0 | exact hv | exact hz | (rw [hN]; rfl) | (rw [hN]; decide) | (rw [hN]; simp [capOr]; done) | exact notE2 hov | exact decide_eq_true hov | exact Nat.le_refl _ | (simp; done) | (simp; omega) | omega | (apply Nat.ble_eq_true_of_le; omega) | (simp [Nat.blt_eq]; omega)
  ·
    first | with_reducible assumption | exact rfl | exact tabIs_self _ | exact hlp | exact hlm | exact hb0 | exact hn0 | exact hv | exact hz | (rw [hN]; rfl) | (rw [hN]; decide) | (rw [hN]; simp [capOr]; done) | exact notE2 hov | exact decide_eq_true hov | exact Nat.le_refl _ | (simp; done) | (simp; omega) | omega | (apply Nat.ble_eq_true_of_le; omega) | (simp [Nat.blt_eq]; omega)
  ·
    first | with_reducible assumption | exact rfl | exact tabIs_self _ | exact hlp | exact hlm | exact hb0 | exact hn0 | exact hv | exact hz | (rw [hN]; rfl) | (rw [hN]; decide) | (rw [hN]; simp [capOr]; done) | exact notE2 hov | exact decide_eq_true hov | exact Nat.le_refl _ | (simp; done) | (simp; omega) | omega | (apply Nat.ble_eq_true_of_le; omega) | (simp [Nat.blt_eq]; omega)
  ·
    first | with_reducible assumption | exact rfl | exact tabIs_self _ | exact hlp | exact hlm | exact hb0 | exact hn0 | exact hv | exact hz | (rw [hN]; rfl) | (rw [hN]; decide) | (rw [hN]; simp [capOr]; done) | exact notE2 hov | exact decide_eq_true hov | exact Nat.le_refl _ | (simp; done) | (simp; omega) | omega | (apply Nat.ble_eq_true_of_le; omega) | (simp [Nat.blt_eq]; omega)
  ·
    first | with_reducible assumption | exact rfl | exact tabIs_self _ | exact hlp | exact hlm | exact hb0 | exact hn0 | exact hv | exact hz | (rw [hN]; rfl) | (rw [hN]; decide) | (rw [hN]; simp [capOr]; done) | exact notE2 hov | exact decide_eq_true hov | exact Nat.le_refl _ | (simp; done) | (simp; omega) | omega | (apply Nat.ble_eq_true_of_le; omega) | (simp [Nat.blt_eq]; omega)
  ·
    first | with_reducible assumption | exact rfl | exact tabIs_self _ | exact hlp | exact hlm | exact hb0 | exact hn0 | exact hv | exact hz | (rw [hN]; rfl) | (rw [hN]; decide) | (rw [hN]; simp [capOr]; done) | exact notE2 hov | exact decide_eq_true hov | exact Nat.le_refl _ | (simp; done) | (simp; omega) | omega | (apply Nat.ble_eq_true_of_le; omega) | (simp [Nat.blt_eq]; omega)
  ·
    first | with_reducible assumption | exact rfl | exact tabIs_self _ | exact hlp | exact hlm | exact hb0 | exact hn0 | exact hv | exact hz | (rw [hN]; rfl) | (rw [hN]; decide) | (rw [hN]; simp [capOr]; done) | exact notE2 hov | exact decide_eq_true hov | exact Nat.le_refl _ | (simp; done) | (simp; omega) | omega | (apply Nat.ble_eq_true_of_le; omega) | (simp [Nat.blt_eq]; omega)
  ·
    first | with_reducible assumption | exact rfl | exact tabIs_self _ | exact hlp | exact hlm | exact hb0 | exact hn0 | exact hv | exact hz | (rw [hN]; rfl) | (rw [hN]; decide) | (rw [hN]; simp [capOr]; done) | exact notE2 hov | exact decide_eq_true hov | exact Nat.le_refl _ | (simp; done) | (simp; omega) | omega | trivial
  ·
    first | with_reducible assumption | exact rfl | exact tabIs_self _ | exact hlp | exact hlm | exact hb0 | exact hn0 | exact hv | exact hz | (rw [hN]; rfl) | (rw [hN]; decide) | (rw [hN]; simp [capOr]; done) | exact notE2 hov | exact decide_eq_true hov | exact Nat.le_refl _ | (simp; done) | (simp; omega) | omega | exact Nat.le_refl _ | omega
  ·
    first | with_reducible assumption | exact rfl | exact tabIs_self _ | exact hlp | exact hlm | exact hb0 | exact hn0 | exact hv | exact hz | (rw [hN]; rfl) | (rw [hN]; decide) | (rw [hN]; simp [capOr]; done) | exact notE2 hov | exact decide_eq_true hov | exact Nat.le_refl _ | (simp; done) | (simp; omega) | omega | (apply Nat.ble_eq_true_of_le; omega) | (simp [Nat.blt_eq]; omega)
  ·
    first | with_reducible assumption | exact rfl | exact tabIs_self _ | exact hlp | exact hlm | exact hb0 | exact hn0 | exact hv | exact hz | (rw [hN]; rfl) | (rw [hN]; decide) | (rw [hN]; simp [capOr]; done) | exact notE2 hov | exact decide_eq_true hov | exact Nat.le_refl _ | (simp; done) | (simp; omega) | omega | (apply Nat.ble_eq_true_of_le; omega) | (simp [Nat.blt_eq]; omega)
  ·
    first | with_reducible assumption | exact rfl | exact tabIs_self _ | exact hlp | exact hlm | exact hb0 | exact hn0 | exact hv | exact hz | (rw [hN]; rfl) | (rw [hN]; decide) | (rw [hN]; simp [capOr]; done) | exact notE2 hov | exact decide_eq_true hov | exact Nat.le_refl _ | (simp; done) | (simp; omega) | omega | trivial
  ·
    first | with_reducible assumption | exact rfl | exact tabIs_self _ | exact hlp | exact hlm | exact hb0 | exact hn0 | exact hv | exact hz | (rw [hN]; rfl) | (rw [hN]; decide) | (rw [hN]; simp [capOr]; done) | exact notE2 hov | exact decide_eq_true hov | exact Nat.le_refl _ | (simp; done) | (simp; omega) | omega | (apply Nat.ble_eq_true_of_le; omega) | (simp [Nat.blt_eq]; omega)
  ·
    first | with_reducible assumption | exact rfl | exact tabIs_self _ | exact hlp | exact hlm | exact hb0 | exact hn0 | exact hv | exact hz | (rw [hN]; rfl) | (rw [hN]; decide) | (rw [hN]; simp [capOr]; done) | exact notE2 hov | exact decide_eq_true hov | exact Nat.le_refl _ | (simp; done) | (simp; omega) | omega | (apply Nat.ble_eq_true_of_le; omega) | (simp [Nat.blt_eq]; omega)
theorem hown : ownKnob Tryd.prog.godebug = none := by kernel_rfl
theorem hlaidOut : laidOutB Tryd.prog = true := by kernel_rfl
theorem k5 : flatK Tryd.prog 4 5 = some [.int .u8] := by kernel_rfl
theorem orphansRound_tabs : TabsOk Tryd.prog [("ragpicker/words.fields", Rows.laid_ragpicker_words_fields)] [(0, tab)] := tabsOkB_ok (by kernel_rfl)
set_option maxRecDepth 100000 in
theorem orphansRound_runs : LawRunsT Tryd.prog 8 [22] [(0, tab)] := by
  intro H enc W base args ds p hval hA htab
  obtain ⟨v0, d0, hargs, rfl, h0⟩ := trodAll_one (args := args.toArray) hA
  obtain rfl : args = [v0] := by simpa using congrArg Array.toList hargs
  obtain ⟨fuel0, h0⟩ := h0
  obtain ⟨c0, l0, q0, rfl⟩ := okWide_slice Tryd.underlying22 (hval 0 22 v0 rfl rfl)
  obtain ⟨L0, len0, num0, bit0, hw0, hs0, hl0, hm0, hn0, hob0, hwf0⟩ := open_rows Tryd.underlying22 k5 (by kernel_rfl) (by decide) (okWide_spot Tryd.underlying22 (hval 0 22 _ rfl rfl)) (by simpa [Value.cells] using h0)
  have hs0 : L0.slice 1 0 len0 none = some (.slice c0 l0 q0) := hs0
  obtain ⟨h, x, ob, hr, hx, hob⟩ := rd_runs len0 (rowAV [.int .u8] num0 bit0) (fun i hi => u8_range (hwf0 i hi 0 .u8 rfl))
  have e0 : inpT [(1, L0)] [(0, tab)] 1 = some L0 := inpT_of rfl
  exact run_lawG (W := W) (ρ := inpT [(1, L0)] [(0, tab)]) EOy_ok hr hx hob (heapRepT (heap := [(1, .arr 1 [.int .u8] true len0 (rowAV [.int .u8] num0 bit0))]) (ls := [(1, L0)]) (tabs := [(0, tab)]) (nxt := 2) rfl (by decide) rfl htab (rep_cons rfl rfl hob0 rep_nil)) (xs := [.slice c0 l0 q0])
    (by simp [denL, den, e0, hs0]) (inpT_fresh (nxt := 2) rfl (Nat.le_refl _)) (inpT_glob (nxt := 2) rfl (by decide))

theorem orphansRound_met (os : Os) (args : Array Value) : laidMetH Tryd.prog [("ragpicker/words.fields", Rows.laid_ragpicker_words_fields)] ((World.doorLaid Tryd.prog 400 os).forCall (fun _ _ => 0) ⟨#[], args, []⟩).memory :=
  laidMetH_of_parts3 (fuel := 8) (laidMet_of_run' 8 (by kernel_rfl) (by kernel_rfl)) (by kernel_rfl) (by kernel_rfl)
set_option maxRecDepth 100000 in
theorem orphansRound_lifted (os : Os) (started : os.Started) (H : Type) (enc : TypeId × Value → H) :
    ReturnsInHanded {} Tryd.checked os 8 .any (fun w args => (Rows.orphansRoundSpec.pre enc Tryd.prog Tryd.f8 [] false w args ∧ laidMetH Tryd.prog [("ragpicker/words.fields", Rows.laid_ragpicker_words_fields)] w) ∧ sizedMet enc Tryd.prog Tryd.f8 (OpenSpec.ofChange Rows.orphansRoundSpec) false w args)
      (Rows.orphansRoundSpec.post enc Tryd.prog Tryd.f8 false true false false) := by
  refine returnsInHanded_of_change_and (C := Tryd.checked) (X := fun w _ => laidMetH Tryd.prog [("ragpicker/words.fields", Rows.laid_ragpicker_words_fields)] w) (fun _ _ _ hh h => h.of_heap hh) hown started (by kernel_rfl) Tryd.func8
    (ChangeSpec.witness_shaped (enc := enc) (C := Tryd.checked) (os := os) (X := fun w _ => laidMetH Tryd.prog [("ragpicker/words.fields", Rows.laid_ragpicker_words_fields)] w) false (World.doorLaid Tryd.prog 400 os) #[.slice none 0 0] 8 rfl (World.shaped_of_RefB (by kernel_rfl) (by kernel_rfl)) (by kernel_rfl) (by kernel_rfl) (by kernel_rfl) (orphansRound_met os _)) ?_
  intro W base args ds gs before hval0 hW _ _ hL _
  exact law_contractT Tryd.params8 orphansRound_runs hlaidOut (of_decide_eq_true (by kernel_rfl)) (by kernel_rfl) Tryd.underlying4 rfl
    (fun ds hl => by match ds, hl with | [d0], _ => exact ⟨rfl, rfl, rfl⟩) W base args ds gs before hval0 hW (tabs_laid (by kernel_rfl) orphansRound_tabs hL)

theorem orphansRound_row : Rows.OrphansRoundSaid :=
  OpenClaim.holds_of_wide 8 Tryd.f8 rfl rfl rfl rfl rfl rfl rfl ⟨rfl, rfl, rfl, rfl, rfl⟩ rfl rfl rfl rfl rfl (by kernel_rfl) Tryd.func8 (by kernel_rfl)
    (of_decide_eq_true (by kernel_rfl)) (by unfold Func.isWrapper; first | (rw [if_pos (by decide +kernel)]; kernel_rfl) | (rw [if_neg (by decide +kernel)]; exact ⟨rfl, rfl⟩))
    (fun os started H enc _ => orphansRound_lifted os started H enc)

theorem orphansRound_holds : Rows.OrphansRoundCardSaid :=
  Claim7.holds_tied_plain_at .later [] [.data] true (true, "9d093ca4ff3baad62d12e56c880e18e1afdaedaaab76b1b6bc1172113a6b8a5e") true orphansRound_row (fun _ h => by cases h) (by kernel_rfl) (fun _ h => by cases h) orphansRound_row_tie rfl ⟨rfl, rfl⟩ (by kernel_rfl) rfl
    (fun f fn hf hfn => by
      obtain rfl : f = 8 := Option.some.inj ((show Tryd.prog.funcNamed "ragpicker/ragpickerlaw12.OrphansRound" = some 8 by kernel_rfl).symm.trans hf) |>.symm
      obtain rfl : fn = Tryd.f8 := (Option.some.inj (Tryd.func8.symm.trans hfn)).symm
      exact ⟨by kernel_rfl, fun j t ht => by
        rw [Tryd.params8] at ht
        have hm : t ∈ [22] := by simpa using Array.mem_of_getElem? ht
        have hall : ([22].all fun u => !Tryd.prog.wantsStandIn u) = true := by kernel_rfl
        exact (show Tryd.prog.wantsStandIn t = false by simpa using List.all_eq_true.1 hall t hm)⟩)
    (by kernel_rfl)

#print axioms orphansRound_holds
end Go.Proofs.YtmndhjodbnojdaaDoor
