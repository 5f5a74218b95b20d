/-
  May an entry go: the program's and the document's answer.
-/
import Derived.Test.YtadbohcdahddoaaEpDef
set_option linter.unusedSimpArgs false
set_option linter.unusedVariables false
namespace Go.Proofs.Ytadbohcdahddoaa
open Go.Ev
section
variable (s g : Int) (mk : Bool) (b e r n : Int)
theorem ma_1 : callB EH0 2000 20 [AV.agg [AV.sym IntKind.i64 s, AV.sym IntKind.u32 g, AV.symb mk, AV.sym IntKind.u64 b, AV.sym IntKind.u64 e, AV.sym IntKind.u64 r], AV.sym IntKind.u64 n] [] (mayR e n) [] [Hint.b true] =
 some ([decide (IntKind.u64.wrap (n - e) ≥ 2) = mayB e n,
 decide (n ≥ e) = true]) := by kernel_rfl
theorem ma_2 : callB EH0 2000 20 [AV.agg [AV.sym IntKind.i64 s, AV.sym IntKind.u32 g, AV.symb mk, AV.sym IntKind.u64 b, AV.sym IntKind.u64 e, AV.sym IntKind.u64 r], AV.sym IntKind.u64 n] [] (mayR e n) [] [Hint.b false] =
 some ([false = mayB e n,
 decide (n ≥ e) = false]) := by kernel_rfl
theorem mb_1 : callB EH0 2000 25 [AV.agg [AV.sym IntKind.i64 s, AV.sym IntKind.u32 g, AV.symb mk, AV.sym IntKind.u64 b, AV.sym IntKind.u64 e, AV.sym IntKind.u64 r], AV.sym IntKind.u64 n] [] (mayR e n) [] [Hint.b true] =
 some ([decide (n ≥ IntKind.u64.wrap (e + 2)) = mayB e n,
 decide (e < 18446744073709551614) = true]) := by kernel_rfl
theorem mb_2 : callB EH0 2000 25 [AV.agg [AV.sym IntKind.i64 s, AV.sym IntKind.u32 g, AV.symb mk, AV.sym IntKind.u64 b, AV.sym IntKind.u64 e, AV.sym IntKind.u64 r], AV.sym IntKind.u64 n] [] (mayR e n) [] [Hint.b false] =
 some ([false = mayB e n,
 decide (e < 18446744073709551614) = false]) := by kernel_rfl
theorem ma_loc : LocOk Try.prog 20 [.agg [.sym .i64 s, .sym .u32 g, .symb mk, .sym .u64 b, .sym .u64 e, .sym .u64 r], .sym .u64 n] [] (mayR e n) := by
  refine loc_of_call EH0_ok (fun hp => ?_)
  have r1 : 0 ≤ e := hp _ (List.mem_cons_self ..)
  have r2 : e < 18446744073709551616 := hp _ (List.mem_cons_of_mem _ (List.mem_cons_self ..))
  have r3 : 0 ≤ n := hp _ (List.mem_cons_of_mem _ (List.mem_cons_of_mem _ (List.mem_cons_self ..)))
  have r4 : n < 18446744073709551616 := hp _ (List.mem_cons_of_mem _ (List.mem_cons_of_mem _ (List.mem_cons_of_mem _ (List.mem_cons_self ..))))
  cases h1 : (decide (n ≥ e)) with
  | true =>
    have g1 := of_decide_eq_true h1
    try simp only [Int.ofNat_eq_natCast, ge_iff_le, gt_iff_lt, Int.not_lt, Int.not_le] at g1
    refine ⟨2000, _, _, _, ma_1 .., (ob_cons ?_ (ob_cons h1 ob_nil))⟩
    · -- decide (IntKind.u64.wrap (n - e) ≥ 2) = mayB e n
      first | rfl | (unfold mayB; rw [u64w (by omega) (by omega)]; rw [Bool.eq_iff_iff]; simp; omega) | (unfold mayB; rw [Bool.eq_iff_iff]; simp; omega)
  | false =>
    have g1 := of_decide_eq_false h1
    try simp only [Int.ofNat_eq_natCast, ge_iff_le, gt_iff_lt, Int.not_lt, Int.not_le] at g1
    refine ⟨2000, _, _, _, ma_2 .., (ob_cons ?_ (ob_cons h1 ob_nil))⟩
    · -- false = mayB e n
      first | rfl | (unfold mayB; rw [u64w (by omega) (by omega)]; rw [Bool.eq_iff_iff]; simp; omega) | (unfold mayB; rw [Bool.eq_iff_iff]; simp; omega)
theorem mb_loc : LocOk Try.prog 25 [.agg [.sym .i64 s, .sym .u32 g, .symb mk, .sym .u64 b, .sym .u64 e, .sym .u64 r], .sym .u64 n] [] (mayR e n) := by
  refine loc_of_call EH0_ok (fun hp => ?_)
  have r1 : 0 ≤ e := hp _ (List.mem_cons_self ..)
  have r2 : e < 18446744073709551616 := hp _ (List.mem_cons_of_mem _ (List.mem_cons_self ..))
  have r3 : 0 ≤ n := hp _ (List.mem_cons_of_mem _ (List.mem_cons_of_mem _ (List.mem_cons_self ..)))
  have r4 : n < 18446744073709551616 := hp _ (List.mem_cons_of_mem _ (List.mem_cons_of_mem _ (List.mem_cons_of_mem _ (List.mem_cons_self ..))))
  cases h1 : (decide (e < 18446744073709551614)) with
  | true =>
    have g1 := of_decide_eq_true h1
    try simp only [Int.ofNat_eq_natCast, ge_iff_le, gt_iff_lt, Int.not_lt, Int.not_le] at g1
    refine ⟨2000, _, _, _, mb_1 .., (ob_cons ?_ (ob_cons h1 ob_nil))⟩
    · -- decide (n ≥ IntKind.u64.wrap (e + 2)) = mayB e n
      first | rfl | (unfold mayB; rw [u64w (by omega) (by omega)]; rw [Bool.eq_iff_iff]; simp; omega) | (unfold mayB; rw [Bool.eq_iff_iff]; simp; omega)
  | false =>
    have g1 := of_decide_eq_false h1
    try simp only [Int.ofNat_eq_natCast, ge_iff_le, gt_iff_lt, Int.not_lt, Int.not_le] at g1
    refine ⟨2000, _, _, _, mb_2 .., (ob_cons ?_ (ob_cons h1 ob_nil))⟩
    · -- false = mayB e n
      first | rfl | (unfold mayB; rw [u64w (by omega) (by omega)]; rw [Bool.eq_iff_iff]; simp; omega) | (unfold mayB; rw [Bool.eq_iff_iff]; simp; omega)
end
noncomputable def maSpec : LSpec := fun la lh => match la, lh with
  | [.agg [.sym .i64 s, .sym .u32 g, .symb mk, .sym .u64 b, .sym .u64 e, .sym .u64 r], .sym .u64 n], [] => some (mayR e n)
  | _, _ => none
theorem maSpec_ok (la : List AV) (lh : List (Nat × AO)) (R : LR) (h : maSpec la lh = some R) : LocOk Try.prog 20 la lh R := by
  unfold maSpec at h
  split at h
  · rename_i s g mk b e r n
    cases h
    exact ma_loc s g mk b e r n
  · cases h

noncomputable def mbSpec : LSpec := fun la lh => match la, lh with
  | [.agg [.sym .i64 s, .sym .u32 g, .symb mk, .sym .u64 b, .sym .u64 e, .sym .u64 r], .sym .u64 n], [] => some (mayR e n)
  | _, _ => none
theorem mbSpec_ok (la : List AV) (lh : List (Nat × AO)) (R : LR) (h : mbSpec la lh = some R) : LocOk Try.prog 25 la lh R := by
  unfold mbSpec at h
  split at h
  · rename_i s g mk b e r n
    cases h
    exact mb_loc s g mk b e r n
  · cases h

end Go.Proofs.Ytadbohcdahddoaa
