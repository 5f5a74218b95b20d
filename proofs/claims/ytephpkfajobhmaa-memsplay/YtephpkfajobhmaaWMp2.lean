/-
  For all inputs, MemsPlay returns true; its arguments read as before. No condition.
-/
import Derived.Test.YtephpkfajobhmaaWMp2Def
set_option linter.unusedSimpArgs false
set_option linter.unusedVariables false
namespace Go.Proofs.Ytephpkfajobhmaa
open Go.Ev Go.ChangeShapes Go.WideShapes Go.ChangeAt Go.RowKit
set_option maxRecDepth 100000
section
variable (m : Nat) (f : Nat → Nat → AV)
theorem mq_1 : (callF EMq 5000 5 [AV.ss 7 1 0 m none] ⟨[(1, AO.arr 7 aSh true m f)], 2, gnm 0, [Hint.b true], [], [], false⟩).map (fun x => (x.1, x.2.ob, noneIn [(1, AO.arr 7 aSh true m f)] x.2.wr)) =
 some (AV.bool true, [decide (Int.ofNat m > 300) = true], true) := by kernel_rfl
theorem mq_2 : (callF EMq 5000 5 [AV.ss 7 1 0 m none] ⟨[(1, AO.arr 7 aSh true m f)], 2, gnm 0, [Hint.b false, Hint.a AV.top, Hint.lp [0, 3, 4] (Ex.exit 0) (mpX m f (mpN f m).fst (mpN f m).snd).tmps (mpX m f (mpN f m).fst (mpN f m).snd).hp.heap 9 [3, 4, 5]], [], [], false⟩).map (fun x => (x.1, x.2.ob, noneIn [(1, AO.arr 7 aSh true m f)] x.2.wr)) =
 some (AV.bool true, [(mpN f m).snd.D.n ≤ (mpN f m).snd.D.n,
 (mpN f m).snd.D.n ≤ 100000,
 FinM (MS.mk (mpN f m).fst.M (mpN f m).fst.st (LS.mk (mpN f m).fst.L.c (mpN f m).fst.L.k (mpN f m).fst.L.a (mpN f m).fst.L.f (mpN f m).fst.L.w (mpN f m).fst.L.i (mpN f m).fst.L.d)).M 1000000,
 wlF (MS.mk (mpN f m).fst.M (mpN f m).fst.st (LS.mk (mpN f m).fst.L.c (mpN f m).fst.L.k (mpN f m).fst.L.a (mpN f m).fst.L.f (mpN f m).fst.L.w (mpN f m).fst.L.i (mpN f m).fst.L.d)).M = rwl (dOf (mpN f m).snd.D.n (wdF (mpN f m).snd.D.W)) (mpN f m).snd.D.n,
 mpLP m f,
 decide (Int.ofNat m > 300) = false], true) := by kernel_rfl
theorem mq_runs (hr : ∀ i, i < m → 0 ≤ avInt (f i 1)) : Runs (mqRun m f) := by
  have hlp := fun h => mp_lp m f h hr
  have hfine := mpN_fine f m
  have hfin : m ≤ 300 → FinM (mpN f m).1.M 1000000 := fun h => hfine.fin.mono (by omega)
  have hw := wlF_rwl hfine.dd hfine.both.agr
  cases h1 : (decide (Int.ofNat m > 300)) with
  | true =>
    have g1 := of_decide_eq_true h1
    try simp only [Int.ofNat_eq_natCast, ge_iff_le, gt_iff_lt, Int.not_lt, Int.not_le] at g1
    refine ⟨_, _, _, mq_1 m f, .inl rfl, (ob_cons h1 ob_nil)⟩
  | false =>
    have g1 := of_decide_eq_false h1
    try simp only [Int.ofNat_eq_natCast, ge_iff_le, gt_iff_lt, Int.not_lt, Int.not_le] at g1
    refine ⟨_, _, _, mq_2 m f, .inl rfl, (ob_cons (Nat.le_refl _) (ob_cons ?_ (ob_cons ?_ (ob_cons ?_ (ob_cons ?_ (ob_cons h1 ob_nil))))))⟩
    ·
      first | exact hlp (by omega) | exact hfin (by omega) | exact hw | (have := hfine.num; omega) | omega | (simp; done) | exact Nat.le_refl _ | omega
    ·
      first | exact hlp (by omega) | exact hfin (by omega) | exact hw | (have := hfine.num; omega) | omega | (simp; done) | trivial
    ·
      first | exact hlp (by omega) | exact hfin (by omega) | exact hw | (have := hfine.num; omega) | omega | (simp; done) | rfl
    ·
      first | exact hlp (by omega) | exact hfin (by omega) | exact hw | (have := hfine.num; omega) | omega | (simp; done) | trivial
end
theorem hown : ownKnob Try.prog.godebug = none := by kernel_rfl
theorem hlaidOut : laidOutB Try.prog = true := by kernel_rfl
theorem k55 : flatK Try.prog 4 55 = some aSh := by kernel_rfl
set_option maxRecDepth 100000 in
theorem memsPlay_runs : LawRuns Try.prog 5 [49] := by
  intro H enc W base args ds p hval hA
  obtain ⟨v0, d0, hargs, rfl, h0⟩ := trodAll_one (args := args.toArray) hA
  obtain rfl : args = [v0] := by simpa using congrArg Array.toList hargs
  obtain ⟨fuel0, h0⟩ := h0
  obtain ⟨c0, l0, q0, rfl⟩ := okWide_slice Try.underlying49 (hval 0 49 v0 rfl rfl)
  obtain ⟨L0, len0, num0, bit0, hw0, hs0, hl0, hm0, hn0, hob0, hwf0⟩ := open_rows Try.underlying49 k55 (by kernel_rfl) (by decide) (okWide_spot Try.underlying49 (hval 0 49 _ rfl rfl)) (by simpa [Value.cells] using h0)
  have hs0 : L0.slice 7 0 len0 none = some (.slice c0 l0 q0) := hs0
  obtain ⟨h, x, ob, hr, hx, hob⟩ := mq_runs len0 (rowAV aSh num0 bit0) (fun i hi => (u8_range (hwf0 i hi 1 .u8 rfl)).1)
  have e0 : inpT [(1, L0)] [] 1 = some L0 := inpT_of rfl
  exact run_lawG (W := W) (ρ := inpT [(1, L0)] []) EMq_ok hr hx hob (heapRepT (heap := [(1, .arr 7 aSh true len0 (rowAV aSh num0 bit0))]) (ls := [(1, L0)]) (tabs := []) (nxt := 2) rfl (by decide) rfl (fun g vs h => by cases h) (rep_cons rfl rfl hob0 rep_nil)) (xs := [.slice c0 l0 q0])
    (by simp [denL, den, e0, hs0]) (inpT_fresh (nxt := 2) rfl (Nat.le_refl _)) (inpT_glob (nxt := 2) rfl (by decide))

set_option maxRecDepth 100000 in
theorem memsPlay_lifted (os : Os) (started : os.Started) (H : Type) (enc : TypeId × Value → H) :
    ReturnsInHanded {} Try.checked os 5 .any (Rows.memsPlaySpec.pre6 enc Try.prog Try.f5 Rows.memsPlayRow.domain false) (Rows.memsPlaySpec.post enc Try.prog Try.f5 false true false false) := by
  refine returnsInHanded_of_change (C := Try.checked) hown started (by kernel_rfl) Try.func5
    (ChangeSpec.witness6 (enc := enc) (C := Try.checked) false ⟨#[], #[.slice none 0 0], []⟩ 8 (by kernel_rfl) (by kernel_rfl) (by kernel_rfl) (by kernel_rfl)) ?_
  intro W base args ds gs before hval0 hW hcnd _
  exact law_contract Try.params5 memsPlay_runs hlaidOut (of_decide_eq_true (by kernel_rfl)) (by kernel_rfl) Try.underlying4 rfl
    (fun ds hl => by match ds, hl with | [d0], _ => exact ⟨rfl, rfl, rfl⟩) W base args ds gs before hval0 hW

theorem memsPlay_holds : Rows.MemsPlaySaid :=
  OpenClaim.holds_of_wide 5 Try.f5 rfl rfl rfl rfl rfl rfl rfl ⟨rfl, rfl, rfl, rfl, rfl⟩ rfl rfl rfl rfl rfl (by kernel_rfl) Try.func5 (by kernel_rfl)
    (of_decide_eq_true (by kernel_rfl)) (by unfold Func.isWrapper; first | (rw [if_pos (by decide +kernel)]; kernel_rfl) | (rw [if_neg (by decide +kernel)]; exact ⟨rfl, rfl⟩))
    (fun os started H enc _ => memsPlay_lifted os started H enc)

#print axioms memsPlay_holds
end Go.Proofs.Ytephpkfajobhmaa
