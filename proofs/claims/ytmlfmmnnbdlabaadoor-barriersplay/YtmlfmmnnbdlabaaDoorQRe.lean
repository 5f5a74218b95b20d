/-
  Barriers: Reached.
-/
import Derived.Test.YtmlfmmnnbdlabaaDoorQReDef
set_option linter.unusedSimpArgs false
set_option linter.unusedVariables false
namespace Go.Proofs.YtmlfmmnnbdlabaaDoor
open Go.Ev
theorem rrb_1 (a b : Int) : callB EM0 2000 26 [AV.sym IntKind.u64 a, AV.sym IntKind.u64 b] (rrbH a b) (rrbR a b) [] [Hint.b true] =
 some ([decide (IntKind.u64.wrap (IntKind.u64.wrap (IntKind.u64.wrap ↑(BitVec.ofInt 64 b &&& BitVec.ofInt 64 281474976710655).toNat + 281474976710656) - IntKind.u64.wrap ↑(BitVec.ofInt 64 a &&& BitVec.ofInt 64 281474976710655).toNat) < 140737488355328) = bpReach a b,
 decide (IntKind.u64.wrap ↑(BitVec.ofInt 64 b &&& BitVec.ofInt 64 281474976710655).toNat < IntKind.u64.wrap ↑(BitVec.ofInt 64 a &&& BitVec.ofInt 64 281474976710655).toNat) = true]) := by kernel_rfl
theorem rrb_2 (a b : Int) : callB EM0 2000 26 [AV.sym IntKind.u64 a, AV.sym IntKind.u64 b] (rrbH a b) (rrbR a b) [] [Hint.b false] =
 some ([decide (IntKind.u64.wrap (IntKind.u64.wrap ↑(BitVec.ofInt 64 b &&& BitVec.ofInt 64 281474976710655).toNat - IntKind.u64.wrap ↑(BitVec.ofInt 64 a &&& BitVec.ofInt 64 281474976710655).toNat) < 140737488355328) = bpReach a b,
 decide (IntKind.u64.wrap ↑(BitVec.ofInt 64 b &&& BitVec.ofInt 64 281474976710655).toNat < IntKind.u64.wrap ↑(BitVec.ofInt 64 a &&& BitVec.ofInt 64 281474976710655).toNat) = false]) := by kernel_rfl
theorem rrb_loc (a b : Int) : LocOk Tryd.prog 26 [.sym .u64 a, .sym .u64 b] (rrbH a b) (rrbR a b) := by
  refine loc_of_call EM0_ok (fun hp => ?_)
  have r1 : 0 ≤ a := hp _ (List.mem_cons_self ..)
  have r2 : a < 18446744073709551616 := hp _ (List.mem_cons_of_mem _ (List.mem_cons_self ..))
  have r3 : 0 ≤ b := hp _ (List.mem_cons_of_mem _ (List.mem_cons_of_mem _ (List.mem_cons_self ..)))
  have r4 : b < 18446744073709551616 := hp _ (List.mem_cons_of_mem _ (List.mem_cons_of_mem _ (List.mem_cons_of_mem _ (List.mem_cons_self ..))))
  clear hp
  cases h1 : (decide   (IntKind.u64.wrap ↑(BitVec.ofInt 64 b &&& BitVec.ofInt 64 281474976710655).toNat <     IntKind.u64.wrap ↑(BitVec.ofInt 64 a &&& BitVec.ofInt 64 281474976710655).toNat)) with
  | true =>
    have g1 := of_decide_eq_true h1
    try simp only [Int.ofNat_eq_natCast, ge_iff_le, gt_iff_lt, Int.not_lt, Int.not_le] at g1
    refine ⟨2000, _, _, _, rrb_1 .., (ob_cons ?_ (ob_cons h1 ob_nil))⟩
    · (have q := reach_t r1 r2 r3 r4 h1; exact q.trans (bp_reach _ _).symm)
  | false =>
    have g1 := of_decide_eq_false h1
    try simp only [Int.ofNat_eq_natCast, ge_iff_le, gt_iff_lt, Int.not_lt, Int.not_le] at g1
    refine ⟨2000, _, _, _, rrb_2 .., (ob_cons ?_ (ob_cons h1 ob_nil))⟩
    · (have q := reach_f r1 r2 r3 r4 h1; exact q.trans (bp_reach _ _).symm)
noncomputable def rrbSpec : LSpec := fun la lh => match la, lh with
  | [.sym .u64 a, .sym .u64 b], [] => some (rrbR a b)
  | _, _ => none
theorem rrbSpec_ok (la : List AV) (lh : List (Nat × AO)) (R : LR) (h : rrbSpec la lh = some R) : LocOk Tryd.prog 26 la lh R := by
  unfold rrbSpec at h
  split at h
  · rename_i a b
    cases h
    exact rrb_loc a b
  · cases h

end Go.Proofs.YtmlfmmnnbdlabaaDoor
