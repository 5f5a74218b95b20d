/-
  For all inputs, StallsPlay returns true; its arguments read as before. No condition.
-/
import Derived.Test.YtephpkfajobhmaaL18
set_option linter.unusedSimpArgs false
set_option linter.unusedVariables false
namespace Go.Proofs.Ytephpkfajobhmaa
open Go.Ev Go.ChangeShapes Go.WideShapes Go.ChangeAt Go.RowKit
set_option maxRecDepth 100000
section
variable (m : Nat) (f : Nat → Nat → AV)
theorem sj_1 : (callF EPj 5000 9 [AV.ss 6 1 0 m none] ⟨[(1, AO.arr 6 asSh true m f)], 2, gnm 0, [Hint.b true], [], [], false⟩).map (fun x => (x.1, x.2.ob, noneIn [(1, AO.arr 6 asSh true m f)] x.2.wr)) =
 some (AV.bool true, [decide (Int.ofNat m > 200) = true], true) := by kernel_rfl
theorem sj_2 : (callF EPj 5000 9 [AV.ss 6 1 0 m none] ⟨[(1, AO.arr 6 asSh true m f)], 2, gnm 0, [Hint.b false, Hint.a AV.top, Hint.lp [0, 3, 4, 5, 6] (Ex.exit 0) (sgX m f (stN f m).S (stN f m).R).tmps (sgX m f (stN f m).S (stN f m).R).hp.heap 11 [3, 4, 5]], [], [], false⟩).map (fun x => (x.1, x.2.ob, noneIn [(1, AO.arr 6 asSh true m f)] x.2.wr)) =
 some (AV.bool true, [(stN f m).R.D.n ≤ (stN f m).R.D.n,
 (stN f m).R.D.n ≤ 100000,
 FinM (stN f m).S.M 1000000,
 wlF (stN f m).S.M = rwl (dOf (stN f m).R.D.n (wdF (stN f m).R.D.W)) (stN f m).R.D.n,
 Both (stN f m).S (stN f m).R,
 sgLP m f,
 decide (Int.ofNat m > 200) = false], true) := by kernel_rfl
theorem sj_runs (hr : ∀ i, i < m → 0 ≤ avInt (f i 2) ∧ 0 ≤ avInt (f i 5) ∧ avInt (f i 5) < 18446744073709551616) : Runs (sjRun m f) := by
  have hlp := fun h1 => sg_lp m f h1 hr
  have hE := stN_ok (f := f) m (fun k hk => (hr k hk).2)
  have hfine := hE.f.fine
  have hfin : m ≤ 200 → FinM (stN f m).S.M 1000000 := fun h1 => hfine.fin.mono (by omega)
  have hw := wlF_rwl hfine.dd hfine.both.agr
  cases h1 : (decide (Int.ofNat m > 200)) with
  | true =>
    have g1 := of_decide_eq_true h1
    try simp only [Int.ofNat_eq_natCast, ge_iff_le, gt_iff_lt, Int.not_lt, Int.not_le] at g1
    refine ⟨_, _, _, sj_1 m f, .inl rfl, (ob_cons h1 ob_nil)⟩
  | false =>
    have g1 := of_decide_eq_false h1
    try simp only [Int.ofNat_eq_natCast, ge_iff_le, gt_iff_lt, Int.not_lt, Int.not_le] at g1
    refine ⟨_, _, _, sj_2 m f, .inl rfl, (ob_cons (Nat.le_refl _) (ob_cons ?_ (ob_cons ?_ (ob_cons ?_ (ob_cons ?_ (ob_cons ?_ (ob_cons h1 ob_nil)))))))⟩
    ·
      first | exact hlp (by omega) | exact hfin (by omega) | exact hw | exact hwb | exact hfine.both | (have := hfine.num; omega) | omega | (simp; done) | exact Nat.le_refl _ | omega
    ·
      first | exact hlp (by omega) | exact hfin (by omega) | exact hw | exact hwb | exact hfine.both | (have := hfine.num; omega) | omega | (simp; done) | trivial
    ·
      first | exact hlp (by omega) | exact hfin (by omega) | exact hw | exact hwb | exact hfine.both | (have := hfine.num; omega) | omega | (simp; done) | rfl
    ·
      first | exact hlp (by omega) | exact hfin (by omega) | exact hw | exact hwb | exact hfine.both | (have := hfine.num; omega) | omega | (simp; done) | trivial
    ·
      first | exact hlp (by omega) | exact hfin (by omega) | exact hw | exact hwb | exact hfine.both | (have := hfine.num; omega) | omega | (simp; done) | trivial
end
theorem hown : ownKnob Try.prog.godebug = none := by kernel_rfl
theorem hlaidOut : laidOutB Try.prog = true := by kernel_rfl
theorem k89 : flatK Try.prog 4 89 = some asSh := by kernel_rfl
set_option maxRecDepth 100000 in
theorem stallsPlay_runs : LawRuns Try.prog 9 [85] := by
  intro H enc W base args ds p hval hA
  obtain ⟨v0, d0, hargs, rfl, h0⟩ := trodAll_one (args := args.toArray) hA
  obtain rfl : args = [v0] := by simpa using congrArg Array.toList hargs
  obtain ⟨fuel0, h0⟩ := h0
  obtain ⟨c0, l0, q0, rfl⟩ := okWide_slice Try.underlying85 (hval 0 85 v0 rfl rfl)
  obtain ⟨L0, len0, num0, bit0, hw0, hs0, hl0, hm0, hn0, hob0, hwf0⟩ := open_rows Try.underlying85 k89 (by kernel_rfl) (by decide) (okWide_spot Try.underlying85 (hval 0 85 _ rfl rfl)) (by simpa [Value.cells] using h0)
  have hs0 : L0.slice 6 0 len0 none = some (.slice c0 l0 q0) := hs0
  obtain ⟨h, x, ob, hr, hx, hob⟩ := sj_runs len0 (rowAV asSh num0 bit0) (fun i hi => ⟨(u8_range (hwf0 i hi 2 .u8 rfl)).1, (u64_range (hwf0 i hi 5 .u64 rfl)).1, (u64_range (hwf0 i hi 5 .u64 rfl)).2⟩)
  have e0 : inpT [(1, L0)] [] 1 = some L0 := inpT_of rfl
  exact run_lawG (W := W) (ρ := inpT [(1, L0)] []) EPj_ok hr hx hob (heapRepT (heap := [(1, .arr 6 asSh true len0 (rowAV asSh num0 bit0))]) (ls := [(1, L0)]) (tabs := []) (nxt := 2) rfl (by decide) rfl (fun g vs h => by cases h) (rep_cons rfl rfl hob0 rep_nil)) (xs := [.slice c0 l0 q0])
    (by simp [denL, den, e0, hs0]) (inpT_fresh (nxt := 2) rfl (Nat.le_refl _)) (inpT_glob (nxt := 2) rfl (by decide))

set_option maxRecDepth 100000 in
theorem stallsPlay_lifted (os : Os) (started : os.Started) (H : Type) (enc : TypeId × Value → H) :
    ReturnsInHanded {} Try.checked os 9 .any (Rows.stallsPlaySpec.pre6 enc Try.prog Try.f9 Rows.stallsPlayRow.domain false) (Rows.stallsPlaySpec.post enc Try.prog Try.f9 false true false false) := by
  refine returnsInHanded_of_change (C := Try.checked) hown started (by kernel_rfl) Try.func9
    (ChangeSpec.witness6 (enc := enc) (C := Try.checked) false ⟨#[], #[.slice none 0 0], []⟩ 8 (by kernel_rfl) (by kernel_rfl) (by kernel_rfl) (by kernel_rfl)) ?_
  intro W base args ds gs before hval0 hW hcnd _
  exact law_contract Try.params9 stallsPlay_runs hlaidOut (of_decide_eq_true (by kernel_rfl)) (by kernel_rfl) Try.underlying4 rfl
    (fun ds hl => by match ds, hl with | [d0], _ => exact ⟨rfl, rfl, rfl⟩) W base args ds gs before hval0 hW

theorem stallsPlay_holds : Rows.StallsPlaySaid :=
  OpenClaim.holds_of_wide 9 Try.f9 rfl rfl rfl rfl rfl rfl rfl ⟨rfl, rfl, rfl, rfl, rfl⟩ rfl rfl rfl rfl rfl (by kernel_rfl) Try.func9 (by kernel_rfl)
    (of_decide_eq_true (by kernel_rfl)) (by unfold Func.isWrapper; first | (rw [if_pos (by decide +kernel)]; kernel_rfl) | (rw [if_neg (by decide +kernel)]; exact ⟨rfl, rfl⟩))
    (fun os started H enc _ => stallsPlay_lifted os started H enc)

#print axioms stallsPlay_holds
end Go.Proofs.Ytephpkfajobhmaa
