/-
  For all inputs, SnapsAny returns true; its arguments read as before. No condition.
-/
import Derived.Test.YtadbohcdahddoaaGSnLDef
set_option linter.unusedSimpArgs false
set_option linter.unusedVariables false
namespace Go.Proofs.Ytadbohcdahddoaa
open Go.Ev Go.ChangeShapes Go.WideShapes Go.ChangeAt Go.RowKit
set_option maxRecDepth 100000
section
variable (n : Nat) (g : Nat → Nat → AV) (m : Nat) (f : Nat → Nat → AV)
theorem sn_1 : (callF ESn 3000 8 [AV.ss 10 1 0 n none, AV.ss 4 2 0 m none] ⟨[(1, AO.arr 10 tSh true n g), (2, AO.arr 4 wSh true m f)], 3, gnm 0, [Hint.b true], [], [], false⟩).map (fun x => (x.1, x.2.ob, noneIn [(1, AO.arr 10 tSh true n g), (2, AO.arr 4 wSh true m f)] x.2.wr)) =
 some (AV.bool true, [decide (Int.ofNat n > 100) = true], true) := by kernel_rfl
theorem sn_2 : (callF ESn 3000 8 [AV.ss 10 1 0 n none, AV.ss 4 2 0 m none] ⟨[(1, AO.arr 10 tSh true n g), (2, AO.arr 4 wSh true m f)], 3, gnm 0, [Hint.b false, Hint.b true], [], [], false⟩).map (fun x => (x.1, x.2.ob, noneIn [(1, AO.arr 10 tSh true n g), (2, AO.arr 4 wSh true m f)] x.2.wr)) =
 some (AV.bool true, [decide (Int.ofNat m > 300) = true,
 decide (Int.ofNat n > 100) = false], true) := by kernel_rfl
theorem sn_3 : (callF ESn 3000 8 [AV.ss 10 1 0 n none, AV.ss 4 2 0 m none] ⟨[(1, AO.arr 10 tSh true n g), (2, AO.arr 4 wSh true m f)], 3, gnm 0, [Hint.b false, Hint.b false, Hint.b false, Hint.node [(5, [Hint.b true])]], [], [], false⟩).map (fun x => (x.1, x.2.ob, noneIn [(1, AO.arr 10 tSh true n g), (2, AO.arr 4 wSh true m f)] x.2.wr)) =
 some (AV.bool true, [(stN g n == stN g n) = true,
 n ≤ n,
 n ≤ 100000,
 n ≤ n,
 n ≤ 100000,
 ((msN (bgW f) m).st != (msN (bgW f) m).st) = false,
 m ≤ m,
 m ≤ 300,
 ∀ (i : Nat), i < m → 0 ≤ avInt (f i 0),
 decide (Int.ofNat m > 300) = false,
 decide (Int.ofNat n > 100) = false], true) := by kernel_rfl
theorem sn_runs (hr : ∀ i, i < m → 0 ≤ avInt (f i 0)) : Runs (snRun n g m f) := by
  cases h1 : (decide (Int.ofNat n > 100)) with
  | true =>
    have g1 := of_decide_eq_true h1
    try simp only [Int.ofNat_eq_natCast, ge_iff_le, gt_iff_lt, Int.not_lt, Int.not_le] at g1
    refine ⟨_, _, _, sn_1 n g m f, .inl rfl, (ob_cons h1 ob_nil)⟩
  | false =>
    have g1 := of_decide_eq_false h1
    try simp only [Int.ofNat_eq_natCast, ge_iff_le, gt_iff_lt, Int.not_lt, Int.not_le] at g1
    cases h2 : (decide (Int.ofNat m > 300)) with
    | true =>
      have g2 := of_decide_eq_true h2
      try simp only [Int.ofNat_eq_natCast, ge_iff_le, gt_iff_lt, Int.not_lt, Int.not_le] at g2
      refine ⟨_, _, _, sn_2 n g m f, .inl rfl, (ob_cons h2 (ob_cons h1 ob_nil))⟩
    | false =>
      have g2 := of_decide_eq_false h2
      try simp only [Int.ofNat_eq_natCast, ge_iff_le, gt_iff_lt, Int.not_lt, Int.not_le] at g2
      refine ⟨_, _, _, sn_3 n g m f, .inl rfl, (ob_cons ?_ (ob_cons (Nat.le_refl _) (ob_cons ?_ (ob_cons (Nat.le_refl _) (ob_cons ?_ (ob_cons ?_ (ob_cons (Nat.le_refl _) (ob_cons ?_ (ob_cons ?_ (ob_cons h2 (ob_cons h1 ob_nil)))))))))))⟩
      ·
        first | (apply Nat.ble_eq_true_of_le; omega) | (simp [Nat.blt_eq]; omega) | exact hr | omega | exact beq_self_eq_true _ | (simp; done)
      ·
        first | exact Nat.le_refl _ | omega | exact hr | omega | exact beq_self_eq_true _ | (simp; done)
      ·
        first | exact Nat.le_refl _ | omega | exact hr | omega | exact beq_self_eq_true _ | (simp; done)
      ·
        first | (apply Nat.ble_eq_true_of_le; omega) | (simp [Nat.blt_eq]; omega) | exact hr | omega | exact beq_self_eq_true _ | (simp; done)
      ·
        first | exact Nat.le_refl _ | omega | exact hr | omega | exact beq_self_eq_true _ | (simp; done)
      ·
        first | exact fun _ => rfl | exact hr | omega | exact beq_self_eq_true _ | (simp; done)
end
theorem hown : ownKnob Try.prog.godebug = none := by kernel_rfl
theorem hlaidOut : laidOutB Try.prog = true := by kernel_rfl
theorem k90 : flatK Try.prog 4 90 = some tSh := by kernel_rfl
theorem k72 : flatK Try.prog 4 72 = some wSh := by kernel_rfl
set_option maxRecDepth 100000 in
theorem snapsAny_runs : LawRuns Try.prog 8 [84, 69] := by
  intro H enc W base args ds p hval hA
  obtain ⟨v0, v1, d0, d1, p0, p1, hargs, rfl, rfl, h0, h1⟩ := trodAll_two (args := args.toArray) hA
  obtain rfl : args = [v0, v1] := by simpa using congrArg Array.toList hargs
  obtain ⟨fuel0, h0⟩ := h0
  obtain ⟨c0, l0, q0, rfl⟩ := okWide_slice Try.underlying84 (hval 0 84 v0 rfl rfl)
  obtain ⟨L0, len0, num0, bit0, hw0, hs0, hl0, hm0, hn0, hob0, hwf0⟩ := open_rows Try.underlying84 k90 (by kernel_rfl) (by decide) (okWide_spot Try.underlying84 (hval 0 84 _ rfl rfl)) (by simpa [Value.cells] using h0)
  have hs0 : L0.slice 10 0 len0 none = some (.slice c0 l0 q0) := hs0
  obtain ⟨fuel1, h1⟩ := h1
  obtain ⟨c1, l1, q1, rfl⟩ := okWide_slice Try.underlying69 (hval 1 69 v1 rfl rfl)
  obtain ⟨L1, len1, num1, bit1, hw1, hs1, hl1, hm1, hn1, hob1, hwf1⟩ := open_rows Try.underlying69 k72 (by kernel_rfl) (by decide) (okWide_spot Try.underlying69 (hval 1 69 _ rfl rfl)) (by simpa [Value.cells] using h1)
  have hs1 : L1.slice 4 0 len1 none = some (.slice c1 l1 q1) := hs1
  obtain ⟨h, x, ob, hr, hx, hob⟩ := sn_runs len0 (rowAV tSh num0 bit0) len1 (rowAV wSh num1 bit1) (fun i hi => (u8_range (hwf1 i hi 0 .u8 rfl)).1)
  have e0 : inpT [(1, L0), (2, L1)] [] 1 = some L0 := inpT_of rfl
  have e1 : inpT [(1, L0), (2, L1)] [] 2 = some L1 := inpT_of rfl
  exact run_lawG (W := W) (ρ := inpT [(1, L0), (2, L1)] []) ESn_ok hr hx hob (heapRepT (heap := [(1, .arr 10 tSh true len0 (rowAV tSh num0 bit0)), (2, .arr 4 wSh true len1 (rowAV wSh num1 bit1))]) (ls := [(1, L0), (2, L1)]) (tabs := []) (nxt := 3) rfl (by decide) rfl (fun g vs h => by cases h) (rep_cons rfl rfl hob0 (rep_cons rfl rfl hob1 rep_nil))) (xs := [.slice c0 l0 q0, .slice c1 l1 q1])
    (by simp [denL, den, e0, hs0, e1, hs1]) (inpT_fresh (nxt := 3) rfl (Nat.le_refl _)) (inpT_glob (nxt := 3) rfl (by decide))

set_option maxRecDepth 100000 in
theorem snapsAny_lifted (os : Os) (started : os.Started) (H : Type) (enc : TypeId × Value → H) :
    ReturnsInHanded {} Try.checked os 8 .any (Rows.snapsAnySpec.pre6 enc Try.prog Try.f8 Rows.snapsAnyRow.domain false) (Rows.snapsAnySpec.post enc Try.prog Try.f8 false true false false) := by
  refine returnsInHanded_of_change (C := Try.checked) hown started (by kernel_rfl) Try.func8
    (ChangeSpec.witness6 (enc := enc) (C := Try.checked) false ⟨#[], #[.slice none 0 0, .slice none 0 0], []⟩ 8 (by kernel_rfl) (by kernel_rfl) (by kernel_rfl) (by kernel_rfl)) ?_
  intro W base args ds gs before hval0 hW hcnd _
  exact law_contract Try.params8 snapsAny_runs hlaidOut (of_decide_eq_true (by kernel_rfl)) (by kernel_rfl) Try.underlying4 rfl
    (fun ds hl => by match ds, hl with | [d0, d1], _ => exact ⟨rfl, rfl, rfl⟩) W base args ds gs before hval0 hW

theorem snapsAny_holds : Rows.SnapsAnySaid :=
  OpenClaim.holds_of_wide 8 Try.f8 rfl rfl rfl rfl rfl rfl rfl ⟨rfl, rfl, rfl, rfl, rfl⟩ rfl rfl rfl rfl rfl (by kernel_rfl) Try.func8 (by kernel_rfl)
    (of_decide_eq_true (by kernel_rfl)) (by unfold Func.isWrapper; first | (rw [if_pos (by decide +kernel)]; kernel_rfl) | (rw [if_neg (by decide +kernel)]; exact ⟨rfl, rfl⟩))
    (fun os started H enc _ => snapsAny_lifted os started H enc)

#print axioms snapsAny_holds
end Go.Proofs.Ytadbohcdahddoaa
