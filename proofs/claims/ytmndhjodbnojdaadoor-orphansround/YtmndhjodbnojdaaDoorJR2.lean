/-
  The document's words: Field.
-/
import Derived.Test.YtmndhjodbnojdaaDoorJR2Def
set_option linter.unusedSimpArgs false
set_option linter.unusedVariables false
namespace Go.Proofs.YtmndhjodbnojdaaDoor
open Go.Ev
theorem rflr_1 (w a b : Int) (ii : Nat) : roundB ER1 2000 rflL ((rflU w a b).hp) [] (rflT w a b ii) [Hint.b true] (rflT w a b (ii + 1)) =
 some (Ex.norm, [w = w,
 a = a,
 b = b,
 IntKind.u64.wrap (IntKind.u64.wrap (2 * (w / 2 ^ (b.toNat + 1 - ii) % 2 ^ ii)) + bitI w (b - Int.ofNat ii)) = w / 2 ^ (b.toNat + 1 - (ii + 1)) % 2 ^ (ii + 1),
 IntKind.i64.wrap (b - Int.ofNat ii - 1) = b - Int.ofNat (ii + 1),
 0 ≤ w,
 w < 18446744073709551616,
 0 ≤ b - Int.ofNat ii,
 b - Int.ofNat ii ≤ 64,
 decide (b - Int.ofNat ii ≥ a) = true]) := by kernel_rfl
theorem rflr_2 (w a b : Int) (ii : Nat) : roundB ER1 2000 rflL ((rflU w a b).hp) [] (rflT w a b ii) [Hint.b false] (rflX w a b ii) =
 some (Ex.exit 0, [w / 2 ^ (b.toNat + 1 - ii) % 2 ^ ii = w / 2 ^ (b.toNat + 1 - ii) % 2 ^ ii,
 decide (b - Int.ofNat ii ≥ a) = false]) := by kernel_rfl
theorem rfli_1 (w a b : Int) : castSt ((rflU w a b).hp) [] (rflU w a b) (rflT w a b 0) =
 some ([w = w,
 a = a,
 b = b,
 0 = w / 2 ^ (b.toNat + 1 - 0) % 1,
 b = b - 0]) := by kernel_rfl
theorem rfl_lp (w a b : Int) (w0 : 0 ≤ w) (w1 : w < 18446744073709551616) (a0 : 0 ≤ a) (ab : a ≤ b) (b1 : b ≤ 63) : rflLP w a b := by
  refine loop_rule ER1_ok (I := Nat) (fun i => rflT w a b i) (fun i => ((b + 1 - a).toNat) - i) (fun i => i ≤ ((b + 1 - a).toNat)) ?_ (fun ii hi => ?_)
  ·
    refine ⟨0, [], _, Nat.zero_le _, rfli_1 .., (ob_cons rfl (ob_cons rfl (ob_cons rfl (ob_cons ?_ (ob_cons ?_ ob_nil)))))⟩
    · (simp [Int.emod_one]; done)
    · (simp [Int.emod_one]; done)
  have hi : ii ≤ ((b + 1 - a).toNat) := hi
  have e2 : IntKind.i64.wrap (b - Int.ofNat ii - 1) = b - Int.ofNat (ii + 1) := by rw [i64w (by simp; omega) (by simp; omega)]; simp; omega
  have e1 : ii < (b + 1 - a).toNat → IntKind.u64.wrap (IntKind.u64.wrap (2 * (w / 2 ^ (b.toNat + 1 - ii) % 2 ^ ii)) + bitI w (b - Int.ofNat ii)) = w / 2 ^ (b.toNat + 1 - (ii + 1)) % 2 ^ (ii + 1) := fun hin => by
    have q1 : (b - Int.ofNat ii).toNat = b.toNat - ii := by show (b - (ii : Int)).toNat = _; omega
    have q2 : b.toNat + 1 - ii = b.toNat - ii + 1 := by omega
    have q3 : b.toNat + 1 - (ii + 1) = b.toNat - ii := by omega
    have hs := fld_succ w0 (b.toNat - ii) ii
    have hr := fld_r (w := w) (a := b.toNat - ii) (n := ii + 1) (by omega)
    have hr2 := fld_r (w := w) (a := b.toNat - ii + 1) (n := ii) (by omega)
    have hb : 0 ≤ w / 2 ^ (b.toNat - ii) % 2 := by omega
    unfold bitI
    rw [q1, q2, q3, u64w (x := 2 * _) (by omega) (by omega), u64w (by omega) (by omega)]
    exact hs
  cases h1 : (decide (b - Int.ofNat ii ≥ a)) with
  | true =>
    have g1 := of_decide_eq_true h1
    try simp only [Int.ofNat_eq_natCast, ge_iff_le, gt_iff_lt, Int.not_lt, Int.not_le] at g1
    refine round_norm (s0 := rflU w a b) (T := fun i => rflT w a b i) (i := ii) (ii + 1) (rflr_1 ..) (ob_cons rfl (ob_cons rfl (ob_cons rfl (ob_cons ?_ (ob_cons ?_ (ob_cons ?_ (ob_cons ?_ (ob_cons ?_ (ob_cons ?_ (ob_cons h1 ob_nil)))))))))) (by show ii + 1 ≤ ((b + 1 - a).toNat); omega) (by show ((b + 1 - a).toNat) - (ii + 1) < ((b + 1 - a).toNat) - ii; omega)
    · omega
    · exact e2
    · omega
    · omega
    · (simp; omega)
    · (simp; omega)
  | false =>
    have g1 := of_decide_eq_false h1
    try simp only [Int.ofNat_eq_natCast, ge_iff_le, gt_iff_lt, Int.not_lt, Int.not_le] at g1
    obtain rfl : ((b + 1 - a).toNat) = ii := by omega
    refine round_exit (s0 := rflU w a b) (T := fun i => rflT w a b i) (i := ((b + 1 - a).toNat)) (rflr_2 ..) (by simp) (ob_cons rfl (ob_cons h1 ob_nil))
theorem rfld_1 (w a b : Int) : callB ER1 2000 172 [AV.sym IntKind.u64 w, AV.sym IntKind.i64 a, AV.sym IntKind.i64 b] (rfldH w a b) (rfldR w a b) [] [Hint.lp [0, 1, 2, 7, 8] (Ex.exit 0) (rflX w a b (b + 1 - a).toNat).tmps [] 1 []] =
 some ([w / 2 ^ (b.toNat + 1 - (b + 1 - a).toNat) % 2 ^ (b + 1 - a).toNat = fldI w a b,
 rflLP w a b]) := by kernel_rfl
theorem rfld_loc (w a b : Int) : LocOk Tryd.prog 172 [.sym .u64 w, .sym .i64 a, .sym .i64 b] (rfldH w a b) (rfldR w a b) := by
  refine loc_of_call ER1_ok (fun hp => ?_)
  have w0 : 0 ≤ w := hp _ (List.mem_cons_self ..)
  have w1 : w < 18446744073709551616 := hp _ (List.mem_cons_of_mem _ (List.mem_cons_self ..))
  have a0 : 0 ≤ a := hp _ (List.mem_cons_of_mem _ (List.mem_cons_of_mem _ (List.mem_cons_self ..)))
  have ab : a ≤ b := hp _ (List.mem_cons_of_mem _ (List.mem_cons_of_mem _ (List.mem_cons_of_mem _ (List.mem_cons_self ..))))
  have b1 : b ≤ 63 := hp _ (List.mem_cons_of_mem _ (List.mem_cons_of_mem _ (List.mem_cons_of_mem _ (List.mem_cons_of_mem _ (List.mem_cons_self ..)))))
  clear hp
  have hlp := rfl_lp w a b w0 w1 a0 ab b1
  have e3 : w / 2 ^ (b.toNat + 1 - (b + 1 - a).toNat) % 2 ^ (b + 1 - a).toNat = fldI w a b := by unfold fldI; rw [show b.toNat + 1 - (b + 1 - a).toNat = a.toNat by omega]
  refine ⟨2000, _, _, _, rfld_1 .., (ob_cons ?_ (ob_cons ?_ ob_nil))⟩
  · exact e3
  · trivial
noncomputable def rfldSpec : LSpec := fun la lh => match la, lh with
  | [.sym .u64 w, .sym .i64 a, .sym .i64 b], [] => some (rfldR w a b)
  | _, _ => none
theorem rfldSpec_ok (la : List AV) (lh : List (Nat × AO)) (R : LR) (h : rfldSpec la lh = some R) : LocOk Tryd.prog 172 la lh R := by
  unfold rfldSpec at h
  split at h
  · rename_i w a b
    cases h
    exact rfld_loc w a b
  · cases h

end Go.Proofs.YtmndhjodbnojdaaDoor
