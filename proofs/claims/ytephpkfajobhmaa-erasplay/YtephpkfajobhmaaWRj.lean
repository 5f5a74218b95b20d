/-
  For all inputs, ErasPlay returns true; its arguments read as before. No condition.
-/
import Derived.Test.YtephpkfajobhmaaEvDropK
set_option linter.unusedSimpArgs false
set_option linter.unusedVariables false
namespace Go.Proofs.Ytephpkfajobhmaa
open Go.Ev Go.ChangeShapes Go.WideShapes Go.ChangeAt Go.RowKit
set_option maxRecDepth 100000
section
variable (m : Nat) (f : Nat → Nat → AV) (q : Nat) (h : Nat → Nat → AV)
theorem rj_1 : (callF ERj 5000 13 [AV.ss 7 1 0 m none, AV.ss 4 2 0 q none] ⟨[(1, AO.arr 7 arSh true m f), (2, AO.arr 4 wSh true q h)], 3, gnm 0, [Hint.b true], [], [], false⟩).map (fun x => (x.1, x.2.ob, noneIn [(1, AO.arr 7 arSh true m f), (2, AO.arr 4 wSh true q h)] x.2.wr)) =
 some (AV.bool true, [decide (Int.ofNat m > 300) = true], true) := by kernel_rfl
theorem rj_2 : (callF ERj 5000 13 [AV.ss 7 1 0 m none, AV.ss 4 2 0 q none] ⟨[(1, AO.arr 7 arSh true m f), (2, AO.arr 4 wSh true q h)], 3, gnm 0, [Hint.b false, Hint.b true], [], [], false⟩).map (fun x => (x.1, x.2.ob, noneIn [(1, AO.arr 7 arSh true m f), (2, AO.arr 4 wSh true q h)] x.2.wr)) =
 some (AV.bool true, [decide (Int.ofNat q > 300) = true,
 decide (Int.ofNat m > 300) = false], true) := by kernel_rfl
theorem rj_3 : (callF ERj 5000 13 [AV.ss 7 1 0 m none, AV.ss 4 2 0 q none] ⟨[(1, AO.arr 7 arSh true m f), (2, AO.arr 4 wSh true q h)], 3, gnm 0, [Hint.b false, Hint.b false, Hint.lp [0, 5, 6, 7] (Ex.exit 0) (rgX m f (rtN f h q m).S (rtN f h q m).R).tmps (rgX m f (rtN f h q m).S (rtN f h q m).R).hp.heap 10 [3, 4, 5, 6]], [], [], false⟩).map (fun x => (x.1, x.2.ob, noneIn [(1, AO.arr 7 arSh true m f), (2, AO.arr 4 wSh true q h)] x.2.wr)) =
 some (AV.bool true, [(rtN f h q m).R.D.n ≤ (rtN f h q m).R.D.n,
 (rtN f h q m).R.D.n ≤ 100000,
 FinM (rtN f h q m).S.M 1000000,
 wlF (rtN f h q m).S.M = rwl (dOf (rtN f h q m).R.D.n (wdF (rtN f h q m).R.D.W)) (rtN f h q m).R.D.n,
 rgLP m f q h,
 q ≤ q,
 q ≤ 300,
 ∀ (i : Nat), i < q → 0 ≤ avInt (h i 0),
 decide (Int.ofNat q > 300) = false,
 decide (Int.ofNat m > 300) = false], true) := by kernel_rfl
theorem rj_runs (hr : ∀ i, i < m → 0 ≤ avInt (f i 3) ∧ 0 ≤ avInt (f i 6) ∧ avInt (f i 6) < 18446744073709551616) (hz0 : ∀ i, i < m → 0 ≤ avInt (f i 0) ∧ avInt (f i 0) < 256) (hh : ∀ i, i < q → 0 ≤ avInt (h i 0) ∧ 0 ≤ avInt (h i 3) ∧ avInt (h i 3) < 18446744073709551616) : Runs (rjRun m f q h) := by
  have hlp := fun h1 h2 => rg_lp m f q h h1 h2 hr hz0 (fun i hi => (hh i hi).2)
  have hE := rtN_ok (f := f) (h := h) (q := q) (msN_u q (fun i hi => (hh i hi).2)) m (fun k hk => (hr k hk).2)
  have hfine := hE.f.fine
  have hfin : m ≤ 300 → q ≤ 300 → FinM (rtN f h q m).S.M 1000000 := fun h1 h2 => hfine.fin.mono (by omega)
  have hw := wlF_rwl hfine.dd hfine.both.agr
  cases h1 : (decide (Int.ofNat m > 300)) with
  | true =>
    have g1 := of_decide_eq_true h1
    try simp only [Int.ofNat_eq_natCast, ge_iff_le, gt_iff_lt, Int.not_lt, Int.not_le] at g1
    refine ⟨_, _, _, rj_1 m f q h, .inl rfl, (ob_cons h1 ob_nil)⟩
  | false =>
    have g1 := of_decide_eq_false h1
    try simp only [Int.ofNat_eq_natCast, ge_iff_le, gt_iff_lt, Int.not_lt, Int.not_le] at g1
    cases h2 : (decide (Int.ofNat q > 300)) with
    | true =>
      have g2 := of_decide_eq_true h2
      try simp only [Int.ofNat_eq_natCast, ge_iff_le, gt_iff_lt, Int.not_lt, Int.not_le] at g2
      refine ⟨_, _, _, rj_2 m f q h, .inl rfl, (ob_cons h2 (ob_cons h1 ob_nil))⟩
    | false =>
      have g2 := of_decide_eq_false h2
      try simp only [Int.ofNat_eq_natCast, ge_iff_le, gt_iff_lt, Int.not_lt, Int.not_le] at g2
      refine ⟨_, _, _, rj_3 m f q h, .inl rfl, (ob_cons (Nat.le_refl _) (ob_cons ?_ (ob_cons ?_ (ob_cons ?_ (ob_cons ?_ (ob_cons (Nat.le_refl _) (ob_cons ?_ (ob_cons ?_ (ob_cons h2 (ob_cons h1 ob_nil))))))))))⟩
      · (have := hfine.num; omega)
      · exact hfin (by omega) (by omega)
      · exact hw
      · exact hlp (by omega) (by omega)
      · (have := hfine.num; omega)
      · exact fun i hi => (hh i hi).1
end
theorem hown : ownKnob Try.prog.godebug = none := by kernel_rfl
theorem hlaidOut : laidOutB Try.prog = true := by kernel_rfl
theorem k134 : flatK Try.prog 4 134 = some arSh := by kernel_rfl
theorem k58 : flatK Try.prog 4 58 = some wSh := by kernel_rfl
set_option maxRecDepth 100000 in
theorem erasPlay_runs : LawRuns Try.prog 13 [131, 106] := by
  intro H enc W base args ds p hval hA
  obtain ⟨v0, v1, d0, d1, p0, p1, hargs, rfl, rfl, h0, h1⟩ := trodAll_two (args := args.toArray) hA
  obtain rfl : args = [v0, v1] := by simpa using congrArg Array.toList hargs
  obtain ⟨fuel0, h0⟩ := h0
  obtain ⟨c0, l0, q0, rfl⟩ := okWide_slice Try.underlying131 (hval 0 131 v0 rfl rfl)
  obtain ⟨L0, len0, num0, bit0, hw0, hs0, hl0, hm0, hn0, hob0, hwf0⟩ := open_rows Try.underlying131 k134 (by kernel_rfl) (by decide) (okWide_spot Try.underlying131 (hval 0 131 _ rfl rfl)) (by simpa [Value.cells] using h0)
  have hs0 : L0.slice 7 0 len0 none = some (.slice c0 l0 q0) := hs0
  obtain ⟨fuel1, h1⟩ := h1
  obtain ⟨c1, l1, q1, rfl⟩ := okWide_slice Try.underlying106 (hval 1 106 v1 rfl rfl)
  obtain ⟨L1, len1, num1, bit1, hw1, hs1, hl1, hm1, hn1, hob1, hwf1⟩ := open_rows Try.underlying106 k58 (by kernel_rfl) (by decide) (okWide_spot Try.underlying106 (hval 1 106 _ rfl rfl)) (by simpa [Value.cells] using h1)
  have hs1 : L1.slice 4 0 len1 none = some (.slice c1 l1 q1) := hs1
  obtain ⟨h, x, ob, hr, hx, hob⟩ := rj_runs len0 (rowAV arSh num0 bit0) len1 (rowAV wSh num1 bit1) (fun i hi => ⟨(u8_range (hwf0 i hi 3 .u8 rfl)).1, (u64_range (hwf0 i hi 6 .u64 rfl)).1, (u64_range (hwf0 i hi 6 .u64 rfl)).2⟩) (fun i hi => u8_range (hwf0 i hi 0 .u8 rfl)) (fun i hi => ⟨(u8_range (hwf1 i hi 0 .u8 rfl)).1, (u64_range (hwf1 i hi 3 .u64 rfl)).1, (u64_range (hwf1 i hi 3 .u64 rfl)).2⟩)
  have e0 : inpT [(1, L0), (2, L1)] [] 1 = some L0 := inpT_of rfl
  have e1 : inpT [(1, L0), (2, L1)] [] 2 = some L1 := inpT_of rfl
  exact run_lawG (W := W) (ρ := inpT [(1, L0), (2, L1)] []) ERj_ok hr hx hob (heapRepT (heap := [(1, .arr 7 arSh true len0 (rowAV arSh num0 bit0)), (2, .arr 4 wSh true len1 (rowAV wSh num1 bit1))]) (ls := [(1, L0), (2, L1)]) (tabs := []) (nxt := 3) rfl (by decide) rfl (fun g vs h => by cases h) (rep_cons rfl rfl hob0 (rep_cons rfl rfl hob1 rep_nil))) (xs := [.slice c0 l0 q0, .slice c1 l1 q1])
    (by simp [denL, den, e0, hs0, e1, hs1]) (inpT_fresh (nxt := 3) rfl (Nat.le_refl _)) (inpT_glob (nxt := 3) rfl (by decide))

set_option maxRecDepth 100000 in
theorem erasPlay_lifted (os : Os) (started : os.Started) (H : Type) (enc : TypeId × Value → H) :
    ReturnsInHanded {} Try.checked os 13 .any (Rows.erasPlaySpec.pre6 enc Try.prog Try.f13 Rows.erasPlayRow.domain false) (Rows.erasPlaySpec.post enc Try.prog Try.f13 false true false false) := by
  refine returnsInHanded_of_change (C := Try.checked) hown started (by kernel_rfl) Try.func13
    (ChangeSpec.witness6 (enc := enc) (C := Try.checked) false ⟨#[], #[.slice none 0 0, .slice none 0 0], []⟩ 8 (by kernel_rfl) (by kernel_rfl) (by kernel_rfl) (by kernel_rfl)) ?_
  intro W base args ds gs before hval0 hW hcnd _
  exact law_contract Try.params13 erasPlay_runs hlaidOut (of_decide_eq_true (by kernel_rfl)) (by kernel_rfl) Try.underlying4 rfl
    (fun ds hl => by match ds, hl with | [d0, d1], _ => exact ⟨rfl, rfl, rfl⟩) W base args ds gs before hval0 hW

theorem erasPlay_holds : Rows.ErasPlaySaid :=
  OpenClaim.holds_of_wide 13 Try.f13 rfl rfl rfl rfl rfl rfl rfl ⟨rfl, rfl, rfl, rfl, rfl⟩ rfl rfl rfl rfl rfl (by kernel_rfl) Try.func13 (by kernel_rfl)
    (of_decide_eq_true (by kernel_rfl)) (by unfold Func.isWrapper; first | (rw [if_pos (by decide +kernel)]; kernel_rfl) | (rw [if_neg (by decide +kernel)]; exact ⟨rfl, rfl⟩))
    (fun os started H enc _ => erasPlay_lifted os started H enc)

#print axioms erasPlay_holds
end Go.Proofs.Ytephpkfajobhmaa
