/-
  For all inputs, StallsWhen returns true. No condition.
-/
import Derived.Test.YtephpkfajobhmaaL18
import Derived.Test.YtephpkfajobhmaaEvLaw
set_option linter.unusedSimpArgs false
set_option linter.unusedVariables false
namespace Go.Proofs.Ytephpkfajobhmaa
open Go.Ev Go.ChangeShapes Go.WideShapes Go.ChangeAt Go.RowKit
set_option maxRecDepth 100000
theorem i8_range {n : Int} (h : (Lit.int .i8 n).wf = true) : -128 ≤ n ∧ n < 128 := by
  simp [Lit.wf, IntKind.min, IntKind.max, IntKind.bits, IntKind.signed] at h; omega
noncomputable def ESw : Env := envG Try.prog [(34, rawSP l18Spec)]
theorem ESw_ok : EnvOk ESw := envG_ok mgood ⟨rawSP_ok l18Spec_ok, trivial⟩
noncomputable def swRun (la li y : Int) (h : List Hint) : Option (AV × List Prop × Bool) := (callF ESw 3000 6 [.sym .u64 la, .sym .u64 li, .sym .i8 y] ⟨[], 1, gnm 0, h, [], [], false⟩).map (fun x => (x.1, x.2.ob, noneIn [] x.2.wr))
theorem sw_1 (la li y : Int) : (callF ESw 3000 6 [.sym .u64 la, .sym .u64 li, .sym .i8 y] ⟨[], 1, gnm 0, [Hint.b true, Hint.b true, Hint.b false], [], [], false⟩).map (fun x => (x.1, x.2.ob, noneIn [] x.2.wr)) = some (AV.bool true, [decide (IntKind.i64.wrap (la.tmod 1099511627776) ≤ IntKind.i64.wrap (IntKind.i64.wrap (IntKind.i64.wrap (la.tmod 1099511627776) + IntKind.i64.wrap (li.tmod 1099511627776)) + IntKind.i64.wrap y)) = false,
 decide (IntKind.i64.wrap (li.tmod 1099511627776) ≥ 0) = true,
 decide (IntKind.i64.wrap (IntKind.i64.wrap (IntKind.i64.wrap (la.tmod 1099511627776) + IntKind.i64.wrap (li.tmod 1099511627776)) + IntKind.i64.wrap y) < IntKind.i64.wrap (la.tmod 1099511627776)) = true], true) := by kernel_rfl
theorem sw_2 (la li y : Int) : (callF ESw 3000 6 [.sym .u64 la, .sym .u64 li, .sym .i8 y] ⟨[], 1, gnm 0, [Hint.b false, Hint.b true, Hint.b true, Hint.b true, Hint.b true, Hint.b true, Hint.b true, Hint.b false], [], [], false⟩).map (fun x => (x.1, x.2.ob, noneIn [] x.2.wr)) = some (AV.bool true, [decide (IntKind.i64.wrap (-1 - IntKind.i64.wrap (li.tmod 1099511627776)) ≥ 0) = false,
 (!decide (IntKind.u64.wrap (IntKind.u64.wrap (IntKind.i64.wrap (IntKind.i64.wrap (IntKind.i64.wrap (la.tmod 1099511627776) + IntKind.i64.wrap (li.tmod 1099511627776)) + IntKind.i64.wrap y)) - IntKind.u64.wrap (IntKind.i64.wrap (IntKind.i64.wrap (IntKind.i64.wrap (la.tmod 1099511627776) + IntKind.i64.wrap (li.tmod 1099511627776)) + IntKind.i64.wrap y))) > IntKind.u64.wrap (IntKind.i64.wrap (li.tmod 1099511627776)))) = true,
 decide (IntKind.i64.wrap (IntKind.i64.wrap (IntKind.i64.wrap (la.tmod 1099511627776) + IntKind.i64.wrap (li.tmod 1099511627776)) + IntKind.i64.wrap y) ≤ IntKind.i64.wrap (IntKind.i64.wrap (IntKind.i64.wrap (la.tmod 1099511627776) + IntKind.i64.wrap (li.tmod 1099511627776)) + IntKind.i64.wrap y)) = true,
 decide (IntKind.i64.wrap (li.tmod 1099511627776) ≥ 0) = true,
 ((decide (IntKind.u64.wrap (IntKind.u64.wrap (IntKind.i64.wrap (IntKind.i64.wrap (IntKind.i64.wrap (la.tmod 1099511627776) + IntKind.i64.wrap (li.tmod 1099511627776)) + IntKind.i64.wrap y)) - IntKind.u64.wrap (IntKind.i64.wrap (la.tmod 1099511627776))) > IntKind.u64.wrap (IntKind.i64.wrap (li.tmod 1099511627776))) == decide (y > 0)) == true) = true,
 decide (IntKind.i64.wrap (la.tmod 1099511627776) ≤ IntKind.i64.wrap (IntKind.i64.wrap (IntKind.i64.wrap (la.tmod 1099511627776) + IntKind.i64.wrap (li.tmod 1099511627776)) + IntKind.i64.wrap y)) = true,
 decide (IntKind.i64.wrap (li.tmod 1099511627776) ≥ 0) = true,
 decide (IntKind.i64.wrap (IntKind.i64.wrap (IntKind.i64.wrap (la.tmod 1099511627776) + IntKind.i64.wrap (li.tmod 1099511627776)) + IntKind.i64.wrap y) < IntKind.i64.wrap (la.tmod 1099511627776)) = false], true) := by kernel_rfl
theorem sw_runs (la li y : Int) (h0 : 0 ≤ la ∧ la < 18446744073709551616) (h1 : 0 ≤ li ∧ li < 18446744073709551616) (h2 : -128 ≤ y ∧ y < 128) : Runs (swRun la li y) := by
  obtain ⟨A, hA⟩ : ∃ A, A = la.tmod 1099511627776 := ⟨_, rfl⟩
  obtain ⟨B, hB⟩ : ∃ B, B = li.tmod 1099511627776 := ⟨_, rfl⟩
  have a0 : 0 ≤ A ∧ A < 1099511627776 := by rw [hA, Int.tmod_eq_emod_of_nonneg h0.1]; omega
  have b0 : 0 ≤ B ∧ B < 1099511627776 := by rw [hB, Int.tmod_eq_emod_of_nonneg h1.1]; omega
  have e1 : IntKind.i64.wrap A = A := i64w (by omega) (by omega)
  have e2 : IntKind.i64.wrap B = B := i64w (by omega) (by omega)
  have e3 : IntKind.i64.wrap y = y := i64w (by omega) (by omega)
  have e4 : IntKind.i64.wrap (A + B) = A + B := i64w (by omega) (by omega)
  have e5 : IntKind.i64.wrap (A + B + y) = A + B + y := i64w (by omega) (by omega)
  have e6 : IntKind.u64.wrap A = A := u64w (by omega) (by omega)
  have e7 : IntKind.u64.wrap B = B := u64w (by omega) (by omega)
  have e8 : IntKind.i64.wrap (-1 - B) = -1 - B := i64w (by omega) (by omega)
  by_cases hn : A + B + y < A
  · refine ⟨_, _, _, sw_1 la li y, .inl rfl, (ob_cons (by (simp only [← hA, ← hB, e1, e2, e3, e4, e5, e6, e7, e8]; simp; omega)) (ob_cons (by (simp only [← hA, ← hB, e1, e2, e3, e4, e5, e6, e7, e8]; simp; omega)) (ob_cons (by (simp only [← hA, ← hB, e1, e2, e3, e4, e5, e6, e7, e8]; simp; omega)) ob_nil)))⟩
  · have e9 : IntKind.u64.wrap (A + B + y) = A + B + y := u64w (by omega) (by omega)
    have e10 : IntKind.u64.wrap (A + B + y - A) = A + B + y - A := u64w (by omega) (by omega)
    have e11 : IntKind.u64.wrap (A + B + y - (A + B + y)) = A + B + y - (A + B + y) := u64w (by omega) (by omega)
    refine ⟨_, _, _, sw_2 la li y, .inl rfl, (ob_cons (by (simp only [← hA, ← hB, e1, e2, e3, e4, e5, e6, e7, e8, e9, e10, e11]; first | (simp; omega) | (simp; done) | (by_cases hy : 0 < y <;> simp [hy] <;> omega))) (ob_cons (by (simp only [← hA, ← hB, e1, e2, e3, e4, e5, e6, e7, e8, e9, e10, e11]; first | (simp; omega) | (simp; done) | (by_cases hy : 0 < y <;> simp [hy] <;> omega))) (ob_cons (by (simp only [← hA, ← hB, e1, e2, e3, e4, e5, e6, e7, e8, e9, e10, e11]; first | (simp; omega) | (simp; done) | (by_cases hy : 0 < y <;> simp [hy] <;> omega))) (ob_cons (by (simp only [← hA, ← hB, e1, e2, e3, e4, e5, e6, e7, e8, e9, e10, e11]; first | (simp; omega) | (simp; done) | (by_cases hy : 0 < y <;> simp [hy] <;> omega))) (ob_cons (by (simp only [← hA, ← hB, e1, e2, e3, e4, e5, e6, e7, e8, e9, e10, e11]; first | (simp; omega) | (simp; done) | (by_cases hy : 0 < y <;> simp [hy] <;> omega))) (ob_cons (by (simp only [← hA, ← hB, e1, e2, e3, e4, e5, e6, e7, e8, e9, e10, e11]; first | (simp; omega) | (simp; done) | (by_cases hy : 0 < y <;> simp [hy] <;> omega))) (ob_cons (by (simp only [← hA, ← hB, e1, e2, e3, e4, e5, e6, e7, e8, e9, e10, e11]; first | (simp; omega) | (simp; done) | (by_cases hy : 0 < y <;> simp [hy] <;> omega))) (ob_cons (by (simp only [← hA, ← hB, e1, e2, e3, e4, e5, e6, e7, e8, e9, e10, e11]; first | (simp; omega) | (simp; done) | (by_cases hy : 0 < y <;> simp [hy] <;> omega))) ob_nil))))))))⟩
theorem hown : ownKnob Try.prog.godebug = none := by kernel_rfl
theorem hlaidOut : laidOutB Try.prog = true := by kernel_rfl
set_option maxRecDepth 100000 in
theorem stallsWhen_runs : LawRuns Try.prog 6 [25, 25, 60] := by
  intro H enc W base args ds p hval hA
  obtain ⟨v0, v1, v2, d0, d1, d2, p0, p1, p2, hargs, rfl, rfl, h0, h1, h2⟩ := trodAll_three (args := args.toArray) hA
  obtain rfl : args = [v0, v1, v2] := by simpa using congrArg Array.toList hargs
  obtain ⟨la, rfl, rla⟩ := okWide_num Try.underlying25 (hval 0 25 v0 rfl rfl)
  obtain ⟨li, rfl, rli⟩ := okWide_num Try.underlying25 (hval 1 25 v1 rfl rfl)
  obtain ⟨y, rfl, ry⟩ := okWide_num Try.underlying60 (hval 2 60 v2 rfl rfl)
  obtain ⟨h, x, ob, hr, hx, hob⟩ := sw_runs la li y (u64_range rla) (u64_range rli) (i8_range ry)
  exact run_lawG (W := W) (ρ := inpT [] []) ESw_ok hr hx hob (heapRepT (heap := []) (ls := []) (tabs := []) (nxt := 1) rfl (by decide) rfl (fun g vs h => by cases h) rep_nil) (xs := [.int .u64 la, .int .u64 li, .int .i8 y])
    (by simp [denL, den]) (inpT_fresh (nxt := 1) rfl (Nat.le_refl _)) (inpT_glob (nxt := 1) rfl (by decide))

set_option maxRecDepth 100000 in
theorem stallsWhen_lifted (os : Os) (started : os.Started) (H : Type) (enc : TypeId × Value → H) :
    ReturnsInHanded {} Try.checked os 6 .any (Rows.stallsWhenSpec.pre6 enc Try.prog Try.f6 Rows.stallsWhenRow.domain false) (Rows.stallsWhenSpec.post enc Try.prog Try.f6 false true false false) := by
  refine returnsInHanded_of_change (C := Try.checked) hown started (by kernel_rfl) Try.func6
    (ChangeSpec.witness6 (enc := enc) (C := Try.checked) false ⟨#[], #[.int .u64 0, .int .u64 0, .int .i8 0], []⟩ 8 (by kernel_rfl) (by kernel_rfl) (by kernel_rfl) (by kernel_rfl)) ?_
  intro W base args ds gs before hval0 hW hcnd _
  exact law_contract Try.params6 stallsWhen_runs hlaidOut (of_decide_eq_true (by kernel_rfl)) (by kernel_rfl) Try.underlying4 rfl
    (fun ds hl => by match ds, hl with | [d0, d1, d2], _ => exact ⟨rfl, rfl, rfl⟩) W base args ds gs before hval0 hW

theorem stallsWhen_holds : Rows.StallsWhenSaid :=
  OpenClaim.holds_of_wide 6 Try.f6 rfl rfl rfl rfl rfl rfl rfl ⟨rfl, rfl, rfl, rfl, rfl⟩ rfl rfl rfl rfl rfl (by kernel_rfl) Try.func6 (by kernel_rfl)
    (of_decide_eq_true (by kernel_rfl)) (by unfold Func.isWrapper; first | (rw [if_pos (by decide +kernel)]; kernel_rfl) | (rw [if_neg (by decide +kernel)]; exact ⟨rfl, rfl⟩))
    (fun os started H enc _ => stallsWhen_lifted os started H enc)

#print axioms stallsWhen_holds
end Go.Proofs.Ytephpkfajobhmaa
