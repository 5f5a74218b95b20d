/-
  For every act, HistsVoid returns true; its argument reads as before. No condition.
-/
import Derived.Test.YtnecknppajbcdaaHVoidDef
import Derived.Test.YtnecknppajbcdaaEvJoin
set_option linter.unusedSimpArgs false
set_option linter.unusedVariables false
namespace Go.Proofs.Ytnecknppajbcdaa
open Go.Ev Go.ChangeShapes Go.WideShapes Go.ChangeAt Go.RowKit
section
variable (k t c o a y v s : Int)
theorem hv_1 : (callF EH 2000 8 [actA k t c o a y v s] ⟨[], 1, gnm 0, [Hint.b true, Hint.b true, Hint.b true, Hint.node [(16, [Hint.b true])], Hint.b false, Hint.b false, Hint.b false, Hint.b true], [], [], false⟩).map (fun x => (x.1, x.2.ob, noneIn [] x.2.wr)) =
 some (AV.bool true, [decide (s < 0) = true,
 decide (IntKind.i64.wrap o > 7) = false,
 decide (t > 15) = false,
 decide (t < 0) = false,
 (!decide (s ≥ 0)) = true,
 decide (o ≤ 7) = true,
 decide (t < 16) = true,
 decide (t ≥ 0) = true], true) := by kernel_rfl
theorem hv_2 : (callF EH 2000 8 [actA k t c o a y v s] ⟨[], 1, gnm 0, [Hint.b true, Hint.b true, Hint.b true, Hint.node [(16, [Hint.b false])], Hint.b false, Hint.b false, Hint.b false, Hint.b false, Hint.node [(12, [Hint.node [], Hint.b false])]], [], [], false⟩).map (fun x => (x.1, x.2.ob, noneIn [] x.2.wr)) =
 some (AV.bool true, [(and2 (t == t) (and2 (IntKind.i64.wrap o == IntKind.i64.wrap o) (and2 (y == y) (and2 (v == v) (and2 (0 == 0) (and2 (0 == 0) (and2 (s == s) (and2 (-1 == -1) (and2 (-1 == -1) true)))))))) == false) = false,
 decide (s < 0) = false,
 decide (IntKind.i64.wrap o > 7) = false,
 decide (t > 15) = false,
 decide (t < 0) = false,
 (!decide (s ≥ 0)) = false,
 decide (o ≤ 7) = true,
 decide (t < 16) = true,
 decide (t ≥ 0) = true], true) := by kernel_rfl
theorem hv_3 : (callF EH 2000 8 [actA k t c o a y v s] ⟨[], 1, gnm 0, [Hint.b true, Hint.b true, Hint.b false, Hint.node [], Hint.b false, Hint.b false, Hint.b true], [], [], false⟩).map (fun x => (x.1, x.2.ob, noneIn [] x.2.wr)) =
 some (AV.bool true, [decide (IntKind.i64.wrap o > 7) = true,
 decide (t > 15) = false,
 decide (t < 0) = false,
 decide (o ≤ 7) = false,
 decide (t < 16) = true,
 decide (t ≥ 0) = true], true) := by kernel_rfl
theorem hv_4 : (callF EH 2000 8 [actA k t c o a y v s] ⟨[], 1, gnm 0, [Hint.b true, Hint.b false, Hint.node [], Hint.b false, Hint.b true], [], [], false⟩).map (fun x => (x.1, x.2.ob, noneIn [] x.2.wr)) =
 some (AV.bool true, [decide (t > 15) = true,
 decide (t < 0) = false,
 decide (t < 16) = false,
 decide (t ≥ 0) = true], true) := by kernel_rfl
theorem hv_5 : (callF EH 2000 8 [actA k t c o a y v s] ⟨[], 1, gnm 0, [Hint.b false, Hint.node [], Hint.b true], [], [], false⟩).map (fun x => (x.1, x.2.ob, noneIn [] x.2.wr)) =
 some (AV.bool true, [decide (t < 0) = true,
 decide (t ≥ 0) = false], true) := by kernel_rfl
theorem hv_runs (hw : IntKind.i64.wrap o = o) : Runs (hvRun k t c o a y v s) := by
  cases h1 : (decide (t ≥ 0)) with
  | true =>
    have g1 := of_decide_eq_true h1
    try simp only [Int.ofNat_eq_natCast, ge_iff_le, gt_iff_lt, Int.not_lt, Int.not_le] at g1
    cases h2 : (decide (t < 16)) with
    | true =>
      have g2 := of_decide_eq_true h2
      try simp only [Int.ofNat_eq_natCast, ge_iff_le, gt_iff_lt, Int.not_lt, Int.not_le] at g2
      cases h3 : (decide (o ≤ 7)) with
      | true =>
        have g3 := of_decide_eq_true h3
        try simp only [Int.ofNat_eq_natCast, ge_iff_le, gt_iff_lt, Int.not_lt, Int.not_le] at g3
        cases h4 : (!decide (s ≥ 0)) with
        | true =>
          have g4 : ¬ (s ≥ 0) := by simpa using h4
          refine ⟨_, _, _, hv_1 k t c o a y v s, .inl rfl, (ob_cons ?_ (ob_cons ?_ (ob_cons ?_ (ob_cons ?_ (ob_cons h4 (ob_cons h3 (ob_cons h2 (ob_cons h1 ob_nil))))))))⟩
          ·
            first | (apply Nat.ble_eq_true_of_le; omega) | (simp [Nat.blt_eq]; omega) | (rw [hw]; exact decide_eq_false (by omega)) | (rw [hw]; exact decide_eq_true (by omega)) | exact decide_eq_false (by omega) | exact decide_eq_true (by omega) | (simp [and2]; done)
          ·
            first | (apply Nat.ble_eq_true_of_le; omega) | (simp [Nat.blt_eq]; omega) | (rw [hw]; exact decide_eq_false (by omega)) | (rw [hw]; exact decide_eq_true (by omega)) | exact decide_eq_false (by omega) | exact decide_eq_true (by omega) | (simp [and2]; done)
          ·
            first | (apply Nat.ble_eq_true_of_le; omega) | (simp [Nat.blt_eq]; omega) | (rw [hw]; exact decide_eq_false (by omega)) | (rw [hw]; exact decide_eq_true (by omega)) | exact decide_eq_false (by omega) | exact decide_eq_true (by omega) | (simp [and2]; done)
          ·
            first | (apply Nat.ble_eq_true_of_le; omega) | (simp [Nat.blt_eq]; omega) | (rw [hw]; exact decide_eq_false (by omega)) | (rw [hw]; exact decide_eq_true (by omega)) | exact decide_eq_false (by omega) | exact decide_eq_true (by omega) | (simp [and2]; done)
        | false =>
          have g4 : s ≥ 0 := by simpa using h4
          refine ⟨_, _, _, hv_2 k t c o a y v s, .inl rfl, (ob_cons ?_ (ob_cons ?_ (ob_cons ?_ (ob_cons ?_ (ob_cons ?_ (ob_cons h4 (ob_cons h3 (ob_cons h2 (ob_cons h1 ob_nil)))))))))⟩
          ·
            first | (apply Nat.ble_eq_true_of_le; omega) | (simp [Nat.blt_eq]; omega) | (rw [hw]; exact decide_eq_false (by omega)) | (rw [hw]; exact decide_eq_true (by omega)) | exact decide_eq_false (by omega) | exact decide_eq_true (by omega) | (simp [and2]; done)
          ·
            first | (apply Nat.ble_eq_true_of_le; omega) | (simp [Nat.blt_eq]; omega) | (rw [hw]; exact decide_eq_false (by omega)) | (rw [hw]; exact decide_eq_true (by omega)) | exact decide_eq_false (by omega) | exact decide_eq_true (by omega) | (simp [and2]; done)
          ·
            first | (apply Nat.ble_eq_true_of_le; omega) | (simp [Nat.blt_eq]; omega) | (rw [hw]; exact decide_eq_false (by omega)) | (rw [hw]; exact decide_eq_true (by omega)) | exact decide_eq_false (by omega) | exact decide_eq_true (by omega) | (simp [and2]; done)
          ·
            first | (apply Nat.ble_eq_true_of_le; omega) | (simp [Nat.blt_eq]; omega) | (rw [hw]; exact decide_eq_false (by omega)) | (rw [hw]; exact decide_eq_true (by omega)) | exact decide_eq_false (by omega) | exact decide_eq_true (by omega) | (simp [and2]; done)
          ·
            first | (apply Nat.ble_eq_true_of_le; omega) | (simp [Nat.blt_eq]; omega) | (rw [hw]; exact decide_eq_false (by omega)) | (rw [hw]; exact decide_eq_true (by omega)) | exact decide_eq_false (by omega) | exact decide_eq_true (by omega) | (simp [and2]; done)
      | false =>
        have g3 := of_decide_eq_false h3
        try simp only [Int.ofNat_eq_natCast, ge_iff_le, gt_iff_lt, Int.not_lt, Int.not_le] at g3
        refine ⟨_, _, _, hv_3 k t c o a y v s, .inl rfl, (ob_cons ?_ (ob_cons ?_ (ob_cons ?_ (ob_cons h3 (ob_cons h2 (ob_cons h1 ob_nil))))))⟩
        ·
          first | (apply Nat.ble_eq_true_of_le; omega) | (simp [Nat.blt_eq]; omega) | (rw [hw]; exact decide_eq_false (by omega)) | (rw [hw]; exact decide_eq_true (by omega)) | exact decide_eq_false (by omega) | exact decide_eq_true (by omega) | (simp [and2]; done)
        ·
          first | (apply Nat.ble_eq_true_of_le; omega) | (simp [Nat.blt_eq]; omega) | (rw [hw]; exact decide_eq_false (by omega)) | (rw [hw]; exact decide_eq_true (by omega)) | exact decide_eq_false (by omega) | exact decide_eq_true (by omega) | (simp [and2]; done)
        ·
          first | (apply Nat.ble_eq_true_of_le; omega) | (simp [Nat.blt_eq]; omega) | (rw [hw]; exact decide_eq_false (by omega)) | (rw [hw]; exact decide_eq_true (by omega)) | exact decide_eq_false (by omega) | exact decide_eq_true (by omega) | (simp [and2]; done)
    | false =>
      have g2 := of_decide_eq_false h2
      try simp only [Int.ofNat_eq_natCast, ge_iff_le, gt_iff_lt, Int.not_lt, Int.not_le] at g2
      refine ⟨_, _, _, hv_4 k t c o a y v s, .inl rfl, (ob_cons ?_ (ob_cons ?_ (ob_cons h2 (ob_cons h1 ob_nil))))⟩
      ·
        first | (apply Nat.ble_eq_true_of_le; omega) | (simp [Nat.blt_eq]; omega) | (rw [hw]; exact decide_eq_false (by omega)) | (rw [hw]; exact decide_eq_true (by omega)) | exact decide_eq_false (by omega) | exact decide_eq_true (by omega) | (simp [and2]; done)
      ·
        first | (apply Nat.ble_eq_true_of_le; omega) | (simp [Nat.blt_eq]; omega) | (rw [hw]; exact decide_eq_false (by omega)) | (rw [hw]; exact decide_eq_true (by omega)) | exact decide_eq_false (by omega) | exact decide_eq_true (by omega) | (simp [and2]; done)
  | false =>
    have g1 := of_decide_eq_false h1
    try simp only [Int.ofNat_eq_natCast, ge_iff_le, gt_iff_lt, Int.not_lt, Int.not_le] at g1
    refine ⟨_, _, _, hv_5 k t c o a y v s, .inl rfl, (ob_cons ?_ (ob_cons h1 ob_nil))⟩
    ·
      first | (apply Nat.ble_eq_true_of_le; omega) | (simp [Nat.blt_eq]; omega) | (rw [hw]; exact decide_eq_false (by omega)) | (rw [hw]; exact decide_eq_true (by omega)) | exact decide_eq_false (by omega) | exact decide_eq_true (by omega) | (simp [and2]; done)
end

theorem hown : ownKnob Try.prog.godebug = none := by kernel_rfl
theorem hlaidOut : laidOutB Try.prog = true := by kernel_rfl
theorem k60 : flatK Try.prog 4 60 = some [.int .u8, .int .i64, .int .i64, .int .u8, .int .u8, .int .u64, .int .u64, .int .i64] := by kernel_rfl

theorem histsVoid_runs : LawRuns Try.prog 8 [60] := by
  intro H enc W base args ds p hval hA
  obtain ⟨v0, d0, hargs, rfl, h0⟩ := trodAll_one (args := args.toArray) hA
  obtain rfl : args = [v0] := by simpa using congrArg Array.toList hargs
  obtain ⟨k, hk, t, ht, c, hc, o, ho, a, ha, y, hy, v, hv, s, hs, rfl⟩ := open_flat Try.underlying60 k60 (hval 0 60 v0 rfl rfl) h0
  obtain ⟨h, x, ob, hr, hx, hob⟩ := hv_runs k t c o a y v s (u8_wrap64 ho)
  exact run_law' (W := W) (ls := []) EH_ok hr hx hob heapRep_nil (xs := [.agg #[.int .u8 k, .int .i64 t, .int .i64 c, .int .u8 o, .int .u8 a, .int .u64 y, .int .u64 v, .int .i64 s]])
    (by simp [actA, denL, den]) rfl (by decide) (Nat.le_refl _)

set_option maxRecDepth 100000 in
theorem histsVoid_lifted (os : Os) (started : os.Started) (H : Type) (enc : TypeId × Value → H) :
    ReturnsInHanded {} Try.checked os 8 .any (Rows.histsVoidSpec.pre6 enc Try.prog Try.f8 Rows.histsVoidRow.domain false) (Rows.histsVoidSpec.post enc Try.prog Try.f8 false true false false) := by
  refine returnsInHanded_of_change (C := Try.checked) hown started (by kernel_rfl) Try.func8
    (ChangeSpec.witness6 (enc := enc) (C := Try.checked) false ⟨#[], #[.agg #[.int .u8 0, .int .i64 0, .int .i64 0, .int .u8 0, .int .u8 0, .int .u64 0, .int .u64 0, .int .i64 0]], []⟩ 8 (by kernel_rfl) (by kernel_rfl) (by kernel_rfl) (by kernel_rfl)) ?_
  intro W base args ds gs before hval0 hW hcnd _
  exact law_contract Try.params8 histsVoid_runs hlaidOut (of_decide_eq_true (by kernel_rfl)) (by kernel_rfl) Try.underlying4 rfl
    (fun ds hl => by match ds, hl with | [d0], _ => exact ⟨rfl, rfl, rfl⟩) W base args ds gs before hval0 hW

theorem histsVoid_holds : Rows.HistsVoidSaid :=
  OpenClaim.holds_of_wide 8 Try.f8 rfl rfl rfl rfl rfl rfl rfl ⟨rfl, rfl, rfl, rfl, rfl⟩ rfl rfl rfl rfl rfl (by kernel_rfl) Try.func8 (by kernel_rfl)
    (of_decide_eq_true (by kernel_rfl)) (by unfold Func.isWrapper; first | (rw [if_pos (by decide +kernel)]; kernel_rfl) | (rw [if_neg (by decide +kernel)]; exact ⟨rfl, rfl⟩))
    (fun os started H enc _ => histsVoid_lifted os started H enc)

#print axioms histsVoid_holds
end Go.Proofs.Ytnecknppajbcdaa
