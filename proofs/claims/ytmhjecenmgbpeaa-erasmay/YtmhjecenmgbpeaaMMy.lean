/-
  For all inputs, ErasMay returns true; its arguments read as before. No condition.
-/
import Derived.Test.YtmhjecenmgbpeaaMMyDef
set_option linter.unusedSimpArgs false
set_option linter.unusedVariables false
namespace Go.Proofs.Ytmhjecenmgbpeaa
open Go.Ev Go.ChangeShapes Go.WideShapes Go.ChangeAt Go.RowKit
set_option maxRecDepth 100000
section
variable (n : Nat) (g : Nat → Nat → AV) (sl ge : Int) (mk : Bool) (b ep er th : Int)
theorem my_1 : (callF EMy 5000 6 [AV.ss 10 1 0 n none, AV.agg [AV.sym IntKind.i64 sl, AV.sym IntKind.u32 ge, AV.symb mk, AV.sym IntKind.u64 b, AV.sym IntKind.u64 ep, AV.sym IntKind.u64 er], AV.sym IntKind.i64 th] ⟨[(1, AO.arr 10 tSh true n g)], 2, gnm 0, [Hint.b true], [], [], false⟩).map (fun x => (x.1, x.2.ob, noneIn [(1, AO.arr 10 tSh true n g)] x.2.wr)) =
 some (AV.bool true, [decide (Int.ofNat n > 30) = true], true) := by kernel_rfl
theorem my_2 : (callF EMy 5000 6 [AV.ss 10 1 0 n none, AV.agg [AV.sym IntKind.i64 sl, AV.sym IntKind.u32 ge, AV.symb mk, AV.sym IntKind.u64 b, AV.sym IntKind.u64 ep, AV.sym IntKind.u64 er], AV.sym IntKind.i64 th] ⟨[(1, AO.arr 10 tSh true n g)], 2, gnm 0, [Hint.b false, Hint.node [], Hint.b false, Hint.b true, Hint.b true, Hint.node [], Hint.b true, Hint.b true], [], [], false⟩).map (fun x => (x.1, x.2.ob, noneIn [(1, AO.arr 10 tSh true n g)] x.2.wr)) =
 some (AV.bool true, [decide (th < 0) = true,
 decide (th < 0) = true,
 decide (th < 0) = true,
 decide (th < 0) = true,
 (((!decide (srch (ixfP n n true g sl ge mk b ep er) n (fun i => Int.ofNat i) (-1) ≥ 0)) == !srchB (rmaP n n true g sl ge mk b ep er 0) n) == false) = false,
 n ≤ n,
 n ≤ 1000000,
 n ≤ n,
 n ≤ 1000000,
 decide (Int.ofNat n > 30) = false], true) := by kernel_rfl
theorem my_3 : (callF EMy 5000 6 [AV.ss 10 1 0 n none, AV.agg [AV.sym IntKind.i64 sl, AV.sym IntKind.u32 ge, AV.symb mk, AV.sym IntKind.u64 b, AV.sym IntKind.u64 ep, AV.sym IntKind.u64 er], AV.sym IntKind.i64 th] ⟨[(1, AO.arr 10 tSh true n g)], 2, gnm 0, [Hint.b false, Hint.node [], Hint.b false, Hint.b false, Hint.b true, Hint.b false, Hint.b true, Hint.node [], Hint.b false, Hint.b true, Hint.b false, Hint.b true], [], [], false⟩).map (fun x => (x.1, x.2.ob, noneIn [(1, AO.arr 10 tSh true n g)] x.2.wr)) =
 some (AV.bool true, [decide (th ≥ 16) = true,
 decide (th < 0) = false,
 decide (th ≥ 16) = true,
 decide (th < 0) = false,
 decide (th ≥ 16) = true,
 decide (th < 0) = false,
 decide (th > 15) = true,
 decide (th < 0) = false,
 (((!decide (srch (ixfP n n true g sl ge mk b ep er) n (fun i => Int.ofNat i) (-1) ≥ 0)) == !srchB (rmaP n n true g sl ge mk b ep er 0) n) == false) = false,
 n ≤ n,
 n ≤ 1000000,
 n ≤ n,
 n ≤ 1000000,
 decide (Int.ofNat n > 30) = false], true) := by kernel_rfl
theorem my_4 : (callF EMy 5000 6 [AV.ss 10 1 0 n none, AV.agg [AV.sym IntKind.i64 sl, AV.sym IntKind.u32 ge, AV.symb mk, AV.sym IntKind.u64 b, AV.sym IntKind.u64 ep, AV.sym IntKind.u64 er], AV.sym IntKind.i64 th] ⟨[(1, AO.arr 10 tSh true n g)], 2, gnm 0, [Hint.b false, Hint.node [], Hint.b false, Hint.b false, Hint.b false], [], [], false⟩).map (fun x => (x.1, x.2.ob, noneIn [(1, AO.arr 10 tSh true n g)] x.2.wr)) =
 some (AV.bool true, [decide (th > 15) = false,
 decide (th < 0) = false,
 (((!decide (srch (ixfP n n true g sl ge mk b ep er) n (fun i => Int.ofNat i) (-1) ≥ 0)) == !srchB (rmaP n n true g sl ge mk b ep er 0) n) == false) = false,
 n ≤ n,
 n ≤ 1000000,
 n ≤ n,
 n ≤ 1000000,
 decide (Int.ofNat n > 30) = false], true) := by kernel_rfl
theorem my_runs (rs : -9223372036854775808 ≤ th ∧ th < 9223372036854775808) (hb : 0 ≤ b ∧ b < 18446744073709551616) (her : 0 ≤ er ∧ er < 18446744073709551616) : Runs (myRun n g sl ge mk b ep er th) := by
  cases h1 : (decide (Int.ofNat n > 30)) with
  | true =>
    have g1 := of_decide_eq_true h1
    try simp only [Int.ofNat_eq_natCast, ge_iff_le, gt_iff_lt, Int.not_lt, Int.not_le] at g1
    refine ⟨_, _, _, my_1 n g sl ge mk b ep er th, .inl rfl, (ob_cons h1 ob_nil)⟩
  | false =>
    have g1 := of_decide_eq_false h1
    try simp only [Int.ofNat_eq_natCast, ge_iff_le, gt_iff_lt, Int.not_lt, Int.not_le] at g1
    cases h2 : (decide (th < 0)) with
    | true =>
      have g2 := of_decide_eq_true h2
      try simp only [Int.ofNat_eq_natCast, ge_iff_le, gt_iff_lt, Int.not_lt, Int.not_le] at g2
      refine ⟨_, _, _, my_2 n g sl ge mk b ep er th, .inl rfl, (ob_cons h2 (ob_cons h2 (ob_cons h2 (ob_cons h2 (ob_cons ?_ (ob_cons (Nat.le_refl _) (ob_cons ?_ (ob_cons (Nat.le_refl _) (ob_cons ?_ (ob_cons h1 ob_nil))))))))))⟩
      ·
        first | (apply Nat.ble_eq_true_of_le; omega) | (simp [Nat.blt_eq]; omega) | (have q := may_same n n n true true g sl ge mk b ep er 0; simp at q ⊢; exact q) | omega | exact beq_self_eq_true _ | (simp; done)
      ·
        first | exact Nat.le_refl _ | omega | (have q := may_same n n n true true g sl ge mk b ep er 0; simp at q ⊢; exact q) | omega | exact beq_self_eq_true _ | (simp; done)
      ·
        first | exact Nat.le_refl _ | omega | (have q := may_same n n n true true g sl ge mk b ep er 0; simp at q ⊢; exact q) | omega | exact beq_self_eq_true _ | (simp; done)
    | false =>
      have g2 := of_decide_eq_false h2
      try simp only [Int.ofNat_eq_natCast, ge_iff_le, gt_iff_lt, Int.not_lt, Int.not_le] at g2
      cases h3 : (decide (th > 15)) with
      | true =>
        have g3 := of_decide_eq_true h3
        try simp only [Int.ofNat_eq_natCast, ge_iff_le, gt_iff_lt, Int.not_lt, Int.not_le] at g3
        refine ⟨_, _, _, my_3 n g sl ge mk b ep er th, .inl rfl, (ob_cons ?_ (ob_cons h2 (ob_cons ?_ (ob_cons h2 (ob_cons ?_ (ob_cons h2 (ob_cons h3 (ob_cons h2 (ob_cons ?_ (ob_cons (Nat.le_refl _) (ob_cons ?_ (ob_cons (Nat.le_refl _) (ob_cons ?_ (ob_cons h1 ob_nil))))))))))))))⟩
        ·
          first | (apply Nat.ble_eq_true_of_le; omega) | (simp [Nat.blt_eq]; omega) | (have q := may_same n n n true true g sl ge mk b ep er 0; simp at q ⊢; exact q) | omega | exact beq_self_eq_true _ | (simp; done)
        ·
          first | (apply Nat.ble_eq_true_of_le; omega) | (simp [Nat.blt_eq]; omega) | (have q := may_same n n n true true g sl ge mk b ep er 0; simp at q ⊢; exact q) | omega | exact beq_self_eq_true _ | (simp; done)
        ·
          first | (apply Nat.ble_eq_true_of_le; omega) | (simp [Nat.blt_eq]; omega) | (have q := may_same n n n true true g sl ge mk b ep er 0; simp at q ⊢; exact q) | omega | exact beq_self_eq_true _ | (simp; done)
        ·
          first | (apply Nat.ble_eq_true_of_le; omega) | (simp [Nat.blt_eq]; omega) | (have q := may_same n n n true true g sl ge mk b ep er 0; simp at q ⊢; exact q) | omega | exact beq_self_eq_true _ | (simp; done)
        ·
          first | exact Nat.le_refl _ | omega | (have q := may_same n n n true true g sl ge mk b ep er 0; simp at q ⊢; exact q) | omega | exact beq_self_eq_true _ | (simp; done)
        ·
          first | exact Nat.le_refl _ | omega | (have q := may_same n n n true true g sl ge mk b ep er 0; simp at q ⊢; exact q) | omega | exact beq_self_eq_true _ | (simp; done)
      | false =>
        have g3 := of_decide_eq_false h3
        try simp only [Int.ofNat_eq_natCast, ge_iff_le, gt_iff_lt, Int.not_lt, Int.not_le] at g3
        refine ⟨_, _, _, my_4 n g sl ge mk b ep er th, .inl rfl, (ob_cons h3 (ob_cons h2 (ob_cons ?_ (ob_cons (Nat.le_refl _) (ob_cons ?_ (ob_cons (Nat.le_refl _) (ob_cons ?_ (ob_cons h1 ob_nil))))))))⟩
        ·
          first | (apply Nat.ble_eq_true_of_le; omega) | (simp [Nat.blt_eq]; omega) | (have q := may_same n n n true true g sl ge mk b ep er 0; simp at q ⊢; exact q) | omega | exact beq_self_eq_true _ | (simp; done)
        ·
          first | exact Nat.le_refl _ | omega | (have q := may_same n n n true true g sl ge mk b ep er 0; simp at q ⊢; exact q) | omega | exact beq_self_eq_true _ | (simp; done)
        ·
          first | exact Nat.le_refl _ | omega | (have q := may_same n n n true true g sl ge mk b ep er 0; simp at q ⊢; exact q) | omega | exact beq_self_eq_true _ | (simp; done)
end
theorem hown : ownKnob Try.prog.godebug = none := by kernel_rfl
theorem hlaidOut : laidOutB Try.prog = true := by kernel_rfl
theorem k62 : flatK Try.prog 4 62 = some tSh := by kernel_rfl
theorem k34 : flatK Try.prog 4 34 = some [.int .i64, .int .u32, .bool, .int .u64, .int .u64, .int .u64] := by kernel_rfl
set_option maxRecDepth 100000 in
theorem erasMay_runs : LawRuns Try.prog 6 [56, 34, 3] := by
  intro H enc W base args ds p hval hA
  obtain ⟨v0, v1, v2, d0, d1, d2, p0, p1, p2, hargs, rfl, rfl, h0, h1, h2⟩ := trodAll_three (args := args.toArray) hA
  obtain rfl : args = [v0, v1, v2] := by simpa using congrArg Array.toList hargs
  obtain ⟨fuel0, h0⟩ := h0
  obtain ⟨c0, l0, q0, rfl⟩ := okWide_slice Try.underlying56 (hval 0 56 v0 rfl rfl)
  obtain ⟨L0, len0, num0, bit0, hw0, hs0, hl0, hm0, hn0, hob0, hwf0⟩ := open_rows Try.underlying56 k62 (by kernel_rfl) (by decide) (okWide_spot Try.underlying56 (hval 0 56 _ rfl rfl)) (by simpa [Value.cells] using h0)
  have hs0 : L0.slice 10 0 len0 none = some (.slice c0 l0 q0) := hs0
  obtain ⟨sl, rsl, ge, rge, mk, b, rb, ep, rep, er, rer, rfl⟩ := open_flat Try.underlying34 k34 (hval 1 34 v1 rfl rfl) h1
  obtain ⟨th, rfl, rth⟩ := okWide_num Try.underlying3 (hval 2 3 v2 rfl rfl)
  obtain ⟨h, x, ob, hr, hx, hob⟩ := my_runs len0 (rowAV tSh num0 bit0) sl ge mk b ep er th (i64_range rth) (u64_range rb) (u64_range rer)
  have e0 : inpT [(1, L0)] [] 1 = some L0 := inpT_of rfl
  exact run_lawG (W := W) (ρ := inpT [(1, L0)] []) EMy_ok hr hx hob (heapRepT (heap := [(1, .arr 10 tSh true len0 (rowAV tSh num0 bit0))]) (ls := [(1, L0)]) (tabs := []) (nxt := 2) rfl (by decide) rfl (fun g vs h => by cases h) (rep_cons rfl rfl hob0 rep_nil)) (xs := [.slice c0 l0 q0, .agg #[.int .i64 sl, .int .u32 ge, .bool mk, .int .u64 b, .int .u64 ep, .int .u64 er], .int .i64 th])
    (by simp [denL, den, e0, hs0]) (inpT_fresh (nxt := 2) rfl (Nat.le_refl _)) (inpT_glob (nxt := 2) rfl (by decide))

set_option maxRecDepth 100000 in
theorem erasMay_lifted (os : Os) (started : os.Started) (H : Type) (enc : TypeId × Value → H) :
    ReturnsInHanded {} Try.checked os 6 .any (Rows.erasMaySpec.pre6 enc Try.prog Try.f6 Rows.erasMayRow.domain false) (Rows.erasMaySpec.post enc Try.prog Try.f6 false true false false) := by
  refine returnsInHanded_of_change (C := Try.checked) hown started (by kernel_rfl) Try.func6
    (ChangeSpec.witness6 (enc := enc) (C := Try.checked) false ⟨#[], #[.slice none 0 0, .agg #[.int .i64 0, .int .u32 0, .bool false, .int .u64 0, .int .u64 0, .int .u64 0], .int .i64 0], []⟩ 8 (by kernel_rfl) (by kernel_rfl) (by kernel_rfl) (by kernel_rfl)) ?_
  intro W base args ds gs before hval0 hW hcnd _
  exact law_contract Try.params6 erasMay_runs hlaidOut (of_decide_eq_true (by kernel_rfl)) (by kernel_rfl) Try.underlying4 rfl
    (fun ds hl => by match ds, hl with | [d0, d1, d2], _ => exact ⟨rfl, rfl, rfl⟩) W base args ds gs before hval0 hW

theorem erasMay_holds : Rows.ErasMaySaid :=
  OpenClaim.holds_of_wide 6 Try.f6 rfl rfl rfl rfl rfl rfl rfl ⟨rfl, rfl, rfl, rfl, rfl⟩ rfl rfl rfl rfl rfl (by kernel_rfl) Try.func6 (by kernel_rfl)
    (of_decide_eq_true (by kernel_rfl)) (by unfold Func.isWrapper; first | (rw [if_pos (by decide +kernel)]; kernel_rfl) | (rw [if_neg (by decide +kernel)]; exact ⟨rfl, rfl⟩))
    (fun os started H enc _ => erasMay_lifted os started H enc)

#print axioms erasMay_holds
end Go.Proofs.Ytmhjecenmgbpeaa
