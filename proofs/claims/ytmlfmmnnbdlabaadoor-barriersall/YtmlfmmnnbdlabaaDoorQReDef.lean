/-
  QReDef and what follows it.
-/
import Derived.Test.YtmlfmmnnbdlabaaDoorQBs
/-
  Barriers: Reached: definitions.
-/
set_option linter.unusedSimpArgs false
set_option linter.unusedVariables false
namespace Go.Proofs.YtmlfmmnnbdlabaaDoor
open Go.Ev
/-- Is a number reached? -/
def reachB (a b : Int) : Bool := decide ((b - a) % 281474976710656 < 140737488355328)
theorem u64r (x : Int) : 0 ≤ IntKind.u64.wrap x ∧ IntKind.u64.wrap x < 18446744073709551616 := by rw [u64m]; omega
theorem and48 {x : Int} (h : 0 ≤ x) (h1 : x < 18446744073709551616) : IntKind.u64.wrap ↑(BitVec.ofInt 64 x &&& BitVec.ofInt 64 281474976710655).toNat = x % 281474976710656 := by
  have e : (BitVec.ofInt 64 x &&& BitVec.ofInt 64 281474976710655).toNat = x.toNat % 2 ^ 48 := by
    rw [BitVec.toNat_and, BitVec.toNat_ofInt, BitVec.toNat_ofInt, ← Nat.and_two_pow_sub_one_eq_mod]
    have : (x % ((2 ^ 64 : Nat) : Int)).toNat = x.toNat := by
      have : x % ((2 ^ 64 : Nat) : Int) = x := Int.emod_eq_of_lt h (by simpa using h1)
      rw [this]
    rw [this]
    rfl
  rw [e, u64m]
  omega
theorem reach_p (a b : Int) : decide ((IntKind.u64.wrap (b - a)).tmod 281474976710656 < 140737488355328) = reachB a b := by
  unfold reachB
  rw [u64m, Int.tmod_eq_emod_of_nonneg (by omega)]
  have : (b - a) % 18446744073709551616 % 281474976710656 = (b - a) % 281474976710656 := by omega
  rw [this]
theorem reach_t {a b : Int} (ha : 0 ≤ a) (ha1 : a < 18446744073709551616) (hb : 0 ≤ b) (hb1 : b < 18446744073709551616)
    (h : decide (IntKind.u64.wrap ↑(BitVec.ofInt 64 b &&& BitVec.ofInt 64 281474976710655).toNat < IntKind.u64.wrap ↑(BitVec.ofInt 64 a &&& BitVec.ofInt 64 281474976710655).toNat) = true) :
    decide (IntKind.u64.wrap (IntKind.u64.wrap (IntKind.u64.wrap ↑(BitVec.ofInt 64 b &&& BitVec.ofInt 64 281474976710655).toNat + 281474976710656) - IntKind.u64.wrap ↑(BitVec.ofInt 64 a &&& BitVec.ofInt 64 281474976710655).toNat) < 140737488355328) = reachB a b := by
  rw [and48 ha ha1, and48 hb hb1] at *
  have h := of_decide_eq_true h
  unfold reachB
  rw [u64m, u64m, Bool.eq_iff_iff]
  simp only [decide_eq_true_eq]
  omega
theorem reach_f {a b : Int} (ha : 0 ≤ a) (ha1 : a < 18446744073709551616) (hb : 0 ≤ b) (hb1 : b < 18446744073709551616)
    (h : decide (IntKind.u64.wrap ↑(BitVec.ofInt 64 b &&& BitVec.ofInt 64 281474976710655).toNat < IntKind.u64.wrap ↑(BitVec.ofInt 64 a &&& BitVec.ofInt 64 281474976710655).toNat) = false) :
    decide (IntKind.u64.wrap (IntKind.u64.wrap ↑(BitVec.ofInt 64 b &&& BitVec.ofInt 64 281474976710655).toNat - IntKind.u64.wrap ↑(BitVec.ofInt 64 a &&& BitVec.ofInt 64 281474976710655).toNat) < 140737488355328) = reachB a b := by
  rw [and48 ha ha1, and48 hb hb1] at *
  have h := of_decide_eq_false h
  unfold reachB
  rw [u64m, Bool.eq_iff_iff]
  simp only [decide_eq_true_eq]
  omega
theorem bp_reach (a b : Int) : bpReach a b = reachB a b := reach_p a b

noncomputable def rrbH (a b : Int) : List (Nat × AO) := []
noncomputable def rrbR (a b : Int) : LR := ⟨0, .symb (bpReach a b), [], 0, [], [0 ≤ a, a < 18446744073709551616, 0 ≤ b, b < 18446744073709551616]⟩
end Go.Proofs.YtmlfmmnnbdlabaaDoor

/-
  Barriers: Reached.
-/
set_option linter.unusedSimpArgs false
set_option linter.unusedVariables false
namespace Go.Proofs.YtmlfmmnnbdlabaaDoor
open Go.Ev
theorem rrb_1 (a b : Int) : callB EM0 2000 26 [AV.sym IntKind.u64 a, AV.sym IntKind.u64 b] (rrbH a b) (rrbR a b) [] [Hint.b true] =
 some ([decide (IntKind.u64.wrap (IntKind.u64.wrap (IntKind.u64.wrap ↑(BitVec.ofInt 64 b &&& BitVec.ofInt 64 281474976710655).toNat + 281474976710656) - IntKind.u64.wrap ↑(BitVec.ofInt 64 a &&& BitVec.ofInt 64 281474976710655).toNat) < 140737488355328) = bpReach a b,
 decide (IntKind.u64.wrap ↑(BitVec.ofInt 64 b &&& BitVec.ofInt 64 281474976710655).toNat < IntKind.u64.wrap ↑(BitVec.ofInt 64 a &&& BitVec.ofInt 64 281474976710655).toNat) = true]) := by kernel_rfl
theorem rrb_2 (a b : Int) : callB EM0 2000 26 [AV.sym IntKind.u64 a, AV.sym IntKind.u64 b] (rrbH a b) (rrbR a b) [] [Hint.b false] =
 some ([decide (IntKind.u64.wrap (IntKind.u64.wrap ↑(BitVec.ofInt 64 b &&& BitVec.ofInt 64 281474976710655).toNat - IntKind.u64.wrap ↑(BitVec.ofInt 64 a &&& BitVec.ofInt 64 281474976710655).toNat) < 140737488355328) = bpReach a b,
 decide (IntKind.u64.wrap ↑(BitVec.ofInt 64 b &&& BitVec.ofInt 64 281474976710655).toNat < IntKind.u64.wrap ↑(BitVec.ofInt 64 a &&& BitVec.ofInt 64 281474976710655).toNat) = false]) := by kernel_rfl
theorem rrb_loc (a b : Int) : LocOk Tryd.prog 26 [.sym .u64 a, .sym .u64 b] (rrbH a b) (rrbR a b) := by
  refine loc_of_call EM0_ok (fun hp => ?_)
  have r1 : 0 ≤ a := hp _ (List.mem_cons_self ..)
  have r2 : a < 18446744073709551616 := hp _ (List.mem_cons_of_mem _ (List.mem_cons_self ..))
  have r3 : 0 ≤ b := hp _ (List.mem_cons_of_mem _ (List.mem_cons_of_mem _ (List.mem_cons_self ..)))
  have r4 : b < 18446744073709551616 := hp _ (List.mem_cons_of_mem _ (List.mem_cons_of_mem _ (List.mem_cons_of_mem _ (List.mem_cons_self ..))))
  clear hp
  cases h1 : (decide   (IntKind.u64.wrap ↑(BitVec.ofInt 64 b &&& BitVec.ofInt 64 281474976710655).toNat <     IntKind.u64.wrap ↑(BitVec.ofInt 64 a &&& BitVec.ofInt 64 281474976710655).toNat)) with
  | true =>
    have g1 := of_decide_eq_true h1
    try simp only [Int.ofNat_eq_natCast, ge_iff_le, gt_iff_lt, Int.not_lt, Int.not_le] at g1
    refine ⟨2000, _, _, _, rrb_1 .., (ob_cons ?_ (ob_cons h1 ob_nil))⟩
    · (have q := reach_t r1 r2 r3 r4 h1; exact q.trans (bp_reach _ _).symm)
  | false =>
    have g1 := of_decide_eq_false h1
    try simp only [Int.ofNat_eq_natCast, ge_iff_le, gt_iff_lt, Int.not_lt, Int.not_le] at g1
    refine ⟨2000, _, _, _, rrb_2 .., (ob_cons ?_ (ob_cons h1 ob_nil))⟩
    · (have q := reach_f r1 r2 r3 r4 h1; exact q.trans (bp_reach _ _).symm)
noncomputable def rrbSpec : LSpec := fun la lh => match la, lh with
  | [.sym .u64 a, .sym .u64 b], [] => some (rrbR a b)
  | _, _ => none
theorem rrbSpec_ok (la : List AV) (lh : List (Nat × AO)) (R : LR) (h : rrbSpec la lh = some R) : LocOk Tryd.prog 26 la lh R := by
  unfold rrbSpec at h
  split at h
  · rename_i a b
    cases h
    exact rrb_loc a b
  · cases h

end Go.Proofs.YtmlfmmnnbdlabaaDoor
