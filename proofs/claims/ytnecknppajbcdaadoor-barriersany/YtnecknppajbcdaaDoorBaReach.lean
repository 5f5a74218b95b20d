/-
  Is a number reached: the program's and the document's answer.
-/
import Derived.Test.YtnecknppajbcdaaDoorBaDef
set_option linter.unusedSimpArgs false
set_option linter.unusedVariables false
namespace Go.Proofs.YtnecknppajbcdaaDoor
open Go.Ev
set_option maxRecDepth 100000
section
variable (a b : Int)
theorem ra_1 : callB EH0 2000 15 [AV.sym IntKind.u64 a, AV.sym IntKind.u64 b] [] (reachR a b) [] [] =
 some ([decide ((IntKind.u64.wrap (b - a)).tmod 281474976710656 < 140737488355328) = reachB a b]) := by kernel_rfl
theorem rb_1 : callB EH0 2000 18 [AV.sym IntKind.u64 a, AV.sym IntKind.u64 b] [] (reachR a b) [] [Hint.b true] =
 some ([decide (IntKind.u64.wrap (IntKind.u64.wrap (IntKind.u64.wrap ↑(BitVec.ofInt 64 b &&& BitVec.ofInt 64 281474976710655).toNat + 281474976710656) - IntKind.u64.wrap ↑(BitVec.ofInt 64 a &&& BitVec.ofInt 64 281474976710655).toNat) < 140737488355328) = reachB a b,
 decide (IntKind.u64.wrap ↑(BitVec.ofInt 64 b &&& BitVec.ofInt 64 281474976710655).toNat < IntKind.u64.wrap ↑(BitVec.ofInt 64 a &&& BitVec.ofInt 64 281474976710655).toNat) = true]) := by kernel_rfl
theorem rb_2 : callB EH0 2000 18 [AV.sym IntKind.u64 a, AV.sym IntKind.u64 b] [] (reachR a b) [] [Hint.b false] =
 some ([decide (IntKind.u64.wrap (IntKind.u64.wrap ↑(BitVec.ofInt 64 b &&& BitVec.ofInt 64 281474976710655).toNat - IntKind.u64.wrap ↑(BitVec.ofInt 64 a &&& BitVec.ofInt 64 281474976710655).toNat) < 140737488355328) = reachB a b,
 decide (IntKind.u64.wrap ↑(BitVec.ofInt 64 b &&& BitVec.ofInt 64 281474976710655).toNat < IntKind.u64.wrap ↑(BitVec.ofInt 64 a &&& BitVec.ofInt 64 281474976710655).toNat) = false]) := by kernel_rfl
theorem ra_loc : LocOk Tryd.prog 15 [.sym .u64 a, .sym .u64 b] [] (reachR a b) := by
  refine loc_of_call EH0_ok (fun hp => ?_)
  refine ⟨2000, _, _, _, ra_1 .., (ob_cons ?_ ob_nil)⟩
  · -- decide ((IntKind.u64.wrap (b - a)).tmod 281474976710656 < 140737488355328) = reachB a b
    first | rfl | exact reach_p a b
theorem rb_loc : LocOk Tryd.prog 18 [.sym .u64 a, .sym .u64 b] [] (reachR a b) := by
  refine loc_of_call EH0_ok (fun hp => ?_)
  have r1 : 0 ≤ a := hp _ (List.mem_cons_self ..)
  have r2 : a < 18446744073709551616 := hp _ (List.mem_cons_of_mem _ (List.mem_cons_self ..))
  have r3 : 0 ≤ b := hp _ (List.mem_cons_of_mem _ (List.mem_cons_of_mem _ (List.mem_cons_self ..)))
  have r4 : b < 18446744073709551616 := hp _ (List.mem_cons_of_mem _ (List.mem_cons_of_mem _ (List.mem_cons_of_mem _ (List.mem_cons_self ..))))
  cases h1 : (decide   (IntKind.u64.wrap ↑(BitVec.ofInt 64 b &&& BitVec.ofInt 64 281474976710655).toNat <     IntKind.u64.wrap ↑(BitVec.ofInt 64 a &&& BitVec.ofInt 64 281474976710655).toNat)) with
  | true =>
    have g1 := of_decide_eq_true h1
    try simp only [Int.ofNat_eq_natCast, ge_iff_le, gt_iff_lt, Int.not_lt, Int.not_le] at g1
    refine ⟨2000, _, _, _, rb_1 .., (ob_cons ?_ (ob_cons h1 ob_nil))⟩
    · -- decide     (IntKind.u64.wrap         (IntKind.u64.wrap             (IntKind.u64.wrap ↑(BitVec.ofInt 64 b &&& BitVec.ofInt 64 281474976710655).toNat + 281474976710656) -           IntKind.u64.wrap ↑(BitVec.ofInt 64 a &&& BitVec.ofInt 64 281474976710655).toNat) <       140737488355328) =   reachB a b
      first | rfl | (have q := reach_t r1 r2 r3 r4 h1; exact q) | (have q := reach_f r1 r2 r3 r4 h1; exact q)
  | false =>
    have g1 := of_decide_eq_false h1
    try simp only [Int.ofNat_eq_natCast, ge_iff_le, gt_iff_lt, Int.not_lt, Int.not_le] at g1
    refine ⟨2000, _, _, _, rb_2 .., (ob_cons ?_ (ob_cons h1 ob_nil))⟩
    · -- decide     (IntKind.u64.wrap         (IntKind.u64.wrap ↑(BitVec.ofInt 64 b &&& BitVec.ofInt 64 281474976710655).toNat -           IntKind.u64.wrap ↑(BitVec.ofInt 64 a &&& BitVec.ofInt 64 281474976710655).toNat) <       140737488355328) =   reachB a b
      first | rfl | (have q := reach_t r1 r2 r3 r4 h1; exact q) | (have q := reach_f r1 r2 r3 r4 h1; exact q)
end
noncomputable def raSpec : LSpec := fun la lh => match la, lh with
  | [.sym .u64 a, .sym .u64 b], [] => some (reachR a b)
  | _, _ => none
theorem raSpec_ok (la : List AV) (lh : List (Nat × AO)) (R : LR) (h : raSpec la lh = some R) : LocOk Tryd.prog 15 la lh R := by
  unfold raSpec at h
  split at h
  · rename_i a b
    cases h
    exact ra_loc a b
  · cases h

noncomputable def rbSpec : LSpec := fun la lh => match la, lh with
  | [.sym .u64 a, .sym .u64 b], [] => some (reachR a b)
  | _, _ => none
theorem rbSpec_ok (la : List AV) (lh : List (Nat × AO)) (R : LR) (h : rbSpec la lh = some R) : LocOk Tryd.prog 18 la lh R := by
  unfold rbSpec at h
  split at h
  · rename_i a b
    cases h
    exact rb_loc a b
  · cases h

noncomputable def EH : Env := envOf Tryd.prog [(17, blivesSpec), (15, nrm raSpec), (18, nrm rbSpec)]
theorem EH_ok : EnvOk EH := envOf_ok hgood ⟨blivesSpec_ok, nrm_ok raSpec_ok, nrm_ok rbSpec_ok, trivial⟩
end Go.Proofs.YtnecknppajbcdaaDoor
