/-
  For all inputs, StallsAny returns true; its arguments read as before. No condition.
-/
import Derived.Test.YtephpkfajobhmaaWStDef
set_option linter.unusedSimpArgs false
set_option linter.unusedVariables false
namespace Go.Proofs.Ytephpkfajobhmaa
open Go.Ev Go.ChangeShapes Go.WideShapes Go.ChangeAt Go.RowKit
set_option maxRecDepth 100000
section
variable (n : Nat) (g : Nat → Nat → AV) (sl ge : Int) (mk : Bool) (b ep er : Int) (z0 z1 z2 : Int)
theorem st_1 : (callF ESl 5000 7 [AV.ss 10 1 0 n none, AV.agg [AV.sym IntKind.i64 sl, AV.sym IntKind.u32 ge, AV.symb mk, AV.sym IntKind.u64 b, AV.sym IntKind.u64 ep, AV.sym IntKind.u64 er], AV.agg [AV.sym IntKind.i64 z0, AV.sym IntKind.i64 z1, AV.sym IntKind.i64 z2]] ⟨[(1, AO.arr 10 tSh true n g)], 2, gnm 0, [Hint.b true], [], [], false⟩).map (fun x => (x.1, x.2.ob, noneIn [(1, AO.arr 10 tSh true n g)] x.2.wr)) =
 some (AV.bool true, [decide (Int.ofNat n > 30) = true], true) := by kernel_rfl
theorem st_2 : (callF ESl 5000 7 [AV.ss 10 1 0 n none, AV.agg [AV.sym IntKind.i64 sl, AV.sym IntKind.u32 ge, AV.symb mk, AV.sym IntKind.u64 b, AV.sym IntKind.u64 ep, AV.sym IntKind.u64 er], AV.agg [AV.sym IntKind.i64 z0, AV.sym IntKind.i64 z1, AV.sym IntKind.i64 z2]] ⟨[(1, AO.arr 10 tSh true n g)], 2, gnm 0, [Hint.b false, Hint.node [(5, [Hint.b false]), (12, [Hint.b false]), (21, [Hint.b false])], Hint.b false, Hint.lpl [8, 9, 10] [5, 6] 2 (Ex.exit 0) (saLX n g sl ge mk b ep er z0 z1 z2 (fl (thOf g) n).length).tmps (saLX n g sl ge mk b ep er z0 z1 z2 0).hp.heap 0 []], [], [], false⟩).map (fun x => (x.1, x.2.ob, noneIn [(1, AO.arr 10 tSh true n g)] x.2.wr)) =
 some (AV.bool true, [saLLP n g sl ge mk b ep er z0 z1 z2,
 ((stB z0 z1 z2 == stB z0 z1 z2) == false) = false,
 -9223372036854775808 ≤ z0 ∧ z0 < 9223372036854775808,
 -9223372036854775808 ≤ z1 ∧ z1 < 9223372036854775808,
 -9223372036854775808 ≤ z2 ∧ z2 < 9223372036854775808,
 -9223372036854775808 ≤ z0 ∧ z0 < 9223372036854775808,
 -9223372036854775808 ≤ z1 ∧ z1 < 9223372036854775808,
 -9223372036854775808 ≤ z2 ∧ z2 < 9223372036854775808,
 ((srchB (saPP n n true g sl ge mk b ep er 0) n == srchB (saPP n n true g sl ge mk b ep er 0) n) == false) = false,
 n ≤ n,
 n ≤ 1000000,
 n ≤ n,
 n ≤ 1000000,
 (Int.ofNat (fl (thOf g) n).length != Int.ofNat (fl (thOf g) n).length) = false,
 (Int.ofNat (fl (thOf g) n).length != Int.ofNat (fl (thOf g) n).length) = false,
 n ≤ n,
 n ≤ 1000000,
 ∀ (i : Nat), i < n → 0 ≤ avInt (g i 0) ∧ 0 ≤ avInt (g i 6),
 n ≤ n,
 n ≤ 100000,
 decide (Int.ofNat n > 30) = false], true) := by kernel_rfl
theorem st_runs (hr0 : ∀ i, i < n → 0 ≤ avInt (g i 0) ∧ 0 ≤ avInt (g i 6)) (rz0 : -9223372036854775808 ≤ z0 ∧ z0 < 9223372036854775808) (rz1 : -9223372036854775808 ≤ z1 ∧ z1 < 9223372036854775808) (rz2 : -9223372036854775808 ≤ z2 ∧ z2 < 9223372036854775808) : Runs (stRun n g sl ge mk b ep er z0 z1 z2) := by
  have hfl := fl_len (thOf g) n
  have hlp : n ≤ 30 → saLLP n g sl ge mk b ep er z0 z1 z2 := fun h => saL_lp n g sl ge mk b ep er z0 z1 z2 (by omega)
  cases h1 : (decide (Int.ofNat n > 30)) with
  | true =>
    have g1 := of_decide_eq_true h1
    try simp only [Int.ofNat_eq_natCast, ge_iff_le, gt_iff_lt, Int.not_lt, Int.not_le] at g1
    refine ⟨_, _, _, st_1 n g sl ge mk b ep er z0 z1 z2, .inl rfl, (ob_cons h1 ob_nil)⟩
  | false =>
    have g1 := of_decide_eq_false h1
    try simp only [Int.ofNat_eq_natCast, ge_iff_le, gt_iff_lt, Int.not_lt, Int.not_le] at g1
    refine ⟨_, _, _, st_2 n g sl ge mk b ep er z0 z1 z2, .inl rfl, (ob_cons ?_ (ob_cons ?_ (ob_cons ?_ (ob_cons ?_ (ob_cons ?_ (ob_cons ?_ (ob_cons ?_ (ob_cons ?_ (ob_cons ?_ (ob_cons (Nat.le_refl _) (ob_cons ?_ (ob_cons (Nat.le_refl _) (ob_cons ?_ (ob_cons ?_ (ob_cons ?_ (ob_cons (Nat.le_refl _) (ob_cons ?_ (ob_cons ?_ (ob_cons (Nat.le_refl _) (ob_cons ?_ (ob_cons h1 ob_nil)))))))))))))))))))))⟩
    ·
      first | trivial | exact hlp (by omega) | exact hr0 | exact rz0 | exact rz1 | exact rz2 | omega | exact beq_self_eq_true _ | (simp; done)
    ·
      first | (apply Nat.ble_eq_true_of_le; omega) | (simp [Nat.blt_eq]; omega) | exact hlp (by omega) | exact hr0 | exact rz0 | exact rz1 | exact rz2 | omega | exact beq_self_eq_true _ | (simp; done)
    ·
      first | trivial | exact hlp (by omega) | exact hr0 | exact rz0 | exact rz1 | exact rz2 | omega | exact beq_self_eq_true _ | (simp; done)
    ·
      first | trivial | exact hlp (by omega) | exact hr0 | exact rz0 | exact rz1 | exact rz2 | omega | exact beq_self_eq_true _ | (simp; done)
    ·
      first | trivial | exact hlp (by omega) | exact hr0 | exact rz0 | exact rz1 | exact rz2 | omega | exact beq_self_eq_true _ | (simp; done)
    ·
      first | trivial | exact hlp (by omega) | exact hr0 | exact rz0 | exact rz1 | exact rz2 | omega | exact beq_self_eq_true _ | (simp; done)
    ·
      first | trivial | exact hlp (by omega) | exact hr0 | exact rz0 | exact rz1 | exact rz2 | omega | exact beq_self_eq_true _ | (simp; done)
    ·
      first | trivial | exact hlp (by omega) | exact hr0 | exact rz0 | exact rz1 | exact rz2 | omega | exact beq_self_eq_true _ | (simp; done)
    ·
      first | (apply Nat.ble_eq_true_of_le; omega) | (simp [Nat.blt_eq]; omega) | exact hlp (by omega) | exact hr0 | exact rz0 | exact rz1 | exact rz2 | omega | exact beq_self_eq_true _ | (simp; done)
    ·
      first | exact Nat.le_refl _ | omega | exact hlp | exact hr0 | exact rz0 | exact rz1 | exact rz2 | omega | exact beq_self_eq_true _ | (simp; done)
    ·
      first | exact Nat.le_refl _ | omega | exact hlp | exact hr0 | exact rz0 | exact rz1 | exact rz2 | omega | exact beq_self_eq_true _ | (simp; done)
    ·
      first | (apply Nat.ble_eq_true_of_le; omega) | (simp [Nat.blt_eq]; omega) | exact hlp (by omega) | exact hr0 | exact rz0 | exact rz1 | exact rz2 | omega | exact beq_self_eq_true _ | (simp; done)
    ·
      first | (apply Nat.ble_eq_true_of_le; omega) | (simp [Nat.blt_eq]; omega) | exact hlp (by omega) | exact hr0 | exact rz0 | exact rz1 | exact rz2 | omega | exact beq_self_eq_true _ | (simp; done)
    ·
      first | exact Nat.le_refl _ | omega | exact hlp | exact hr0 | exact rz0 | exact rz1 | exact rz2 | omega | exact beq_self_eq_true _ | (simp; done)
    ·
      first | exact fun _ => rfl | exact hlp | exact hr0 | exact rz0 | exact rz1 | exact rz2 | omega | exact beq_self_eq_true _ | (simp; done)
    ·
      first | exact Nat.le_refl _ | omega | exact hlp | exact hr0 | exact rz0 | exact rz1 | exact rz2 | omega | exact beq_self_eq_true _ | (simp; done)
end
theorem hown : ownKnob Try.prog.godebug = none := by kernel_rfl
theorem hlaidOut : laidOutB Try.prog = true := by kernel_rfl
theorem k104 : flatK Try.prog 4 104 = some tSh := by kernel_rfl
theorem k68 : flatK Try.prog 4 68 = some [.int .i64, .int .u32, .bool, .int .u64, .int .u64, .int .u64] := by kernel_rfl
theorem k69 : flatK Try.prog 4 69 = some [.int .i64, .int .i64, .int .i64] := by kernel_rfl
set_option maxRecDepth 100000 in
theorem stallsAny_runs : LawRuns Try.prog 7 [63, 68, 69] := by
  intro H enc W base args ds p hval hA
  obtain ⟨v0, v1, v2, d0, d1, d2, p0, p1, p2, hargs, rfl, rfl, h0, h1, h2⟩ := trodAll_three (args := args.toArray) hA
  obtain rfl : args = [v0, v1, v2] := by simpa using congrArg Array.toList hargs
  obtain ⟨fuel0, h0⟩ := h0
  obtain ⟨c0, l0, q0, rfl⟩ := okWide_slice Try.underlying63 (hval 0 63 v0 rfl rfl)
  obtain ⟨L0, len0, num0, bit0, hw0, hs0, hl0, hm0, hn0, hob0, hwf0⟩ := open_rows Try.underlying63 k104 (by kernel_rfl) (by decide) (okWide_spot Try.underlying63 (hval 0 63 _ rfl rfl)) (by simpa [Value.cells] using h0)
  have hs0 : L0.slice 10 0 len0 none = some (.slice c0 l0 q0) := hs0
  obtain ⟨sl, rsl, ge, rge, mk, b, rb, ep, rep, er, rer, rfl⟩ := open_flat Try.underlying68 k68 (hval 1 68 v1 rfl rfl) h1
  obtain ⟨z0, rz0, z1, rz1, z2, rz2, rfl⟩ := open_flat_arr Try.underlying69 k69 (hval 2 69 v2 rfl rfl) h2
  obtain ⟨h, x, ob, hr, hx, hob⟩ := st_runs len0 (rowAV tSh num0 bit0) sl ge mk b ep er z0 z1 z2 (fun i hi => ⟨(u64_range (hwf0 i hi 0 .u64 rfl)).1, (u64_range (hwf0 i hi 6 .u64 rfl)).1⟩) (i64_range rz0) (i64_range rz1) (i64_range rz2)
  have e0 : inpT [(1, L0)] [] 1 = some L0 := inpT_of rfl
  exact run_lawG (W := W) (ρ := inpT [(1, L0)] []) ESl_ok hr hx hob (heapRepT (heap := [(1, .arr 10 tSh true len0 (rowAV tSh num0 bit0))]) (ls := [(1, L0)]) (tabs := []) (nxt := 2) rfl (by decide) rfl (fun g vs h => by cases h) (rep_cons rfl rfl hob0 rep_nil)) (xs := [.slice c0 l0 q0, .agg #[.int .i64 sl, .int .u32 ge, .bool mk, .int .u64 b, .int .u64 ep, .int .u64 er], .agg #[.int .i64 z0, .int .i64 z1, .int .i64 z2]])
    (by simp [denL, den, e0, hs0]) (inpT_fresh (nxt := 2) rfl (Nat.le_refl _)) (inpT_glob (nxt := 2) rfl (by decide))

set_option maxRecDepth 100000 in
theorem stallsAny_lifted (os : Os) (started : os.Started) (H : Type) (enc : TypeId × Value → H) :
    ReturnsInHanded {} Try.checked os 7 .any (Rows.stallsAnySpec.pre6 enc Try.prog Try.f7 Rows.stallsAnyRow.domain false) (Rows.stallsAnySpec.post enc Try.prog Try.f7 false true false false) := by
  refine returnsInHanded_of_change (C := Try.checked) hown started (by kernel_rfl) Try.func7
    (ChangeSpec.witness6 (enc := enc) (C := Try.checked) false ⟨#[], #[.slice none 0 0, .agg #[.int .i64 0, .int .u32 0, .bool false, .int .u64 0, .int .u64 0, .int .u64 0], .agg #[.int .i64 0, .int .i64 0, .int .i64 0]], []⟩ 8 (by kernel_rfl) (by kernel_rfl) (by kernel_rfl) (by kernel_rfl)) ?_
  intro W base args ds gs before hval0 hW hcnd _
  exact law_contract Try.params7 stallsAny_runs hlaidOut (of_decide_eq_true (by kernel_rfl)) (by kernel_rfl) Try.underlying4 rfl
    (fun ds hl => by match ds, hl with | [d0, d1, d2], _ => exact ⟨rfl, rfl, rfl⟩) W base args ds gs before hval0 hW

theorem stallsAny_holds : Rows.StallsAnySaid :=
  OpenClaim.holds_of_wide 7 Try.f7 rfl rfl rfl rfl rfl rfl rfl ⟨rfl, rfl, rfl, rfl, rfl⟩ rfl rfl rfl rfl rfl (by kernel_rfl) Try.func7 (by kernel_rfl)
    (of_decide_eq_true (by kernel_rfl)) (by unfold Func.isWrapper; first | (rw [if_pos (by decide +kernel)]; kernel_rfl) | (rw [if_neg (by decide +kernel)]; exact ⟨rfl, rfl⟩))
    (fun os started H enc _ => stallsAny_lifted os started H enc)

#print axioms stallsAny_holds
end Go.Proofs.Ytephpkfajobhmaa
