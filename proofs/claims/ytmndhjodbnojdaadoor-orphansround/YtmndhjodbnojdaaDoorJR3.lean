/-
  The document's words: Put.
-/
import Derived.Test.YtmndhjodbnojdaaDoorJR3Def
set_option linter.unusedSimpArgs false
set_option linter.unusedVariables false
namespace Go.Proofs.YtmndhjodbnojdaaDoor
open Go.Ev
theorem rp1r_1 (w x a b : Int) (ii : Nat) : roundB ER1 2000 rp1L ((rp1U w x a b).hp) [] (rp1T w x a b ii) [Hint.b true] (rp1T w x a b (ii + 1)) =
 some (Ex.norm, [w = w,
 x = x,
 a = a,
 b = b,
 IntKind.u64.wrap (p2 ii * 2) = p2 (ii + 1),
 IntKind.i64.wrap (Int.ofNat ii + 1) = Int.ofNat (ii + 1),
 decide (Int.ofNat ii < a) = true]) := by kernel_rfl
theorem rp1r_2 (w x a b : Int) (ii : Nat) : roundB ER1 2000 rp1L ((rp1U w x a b).hp) [] (rp1T w x a b ii) [Hint.b false] (rp1X w x a b ii) =
 some (Ex.exit 0, [w = w,
 x = x,
 a = a,
 b = b,
 p2 ii = p2 ii,
 decide (Int.ofNat ii < a) = false]) := by kernel_rfl
theorem rp1i_1 (w x a b : Int) : castSt ((rp1U w x a b).hp) [] (rp1U w x a b) (rp1T w x a b 0) =
 some ([w = w,
 x = x,
 a = a,
 b = b,
 (1 : Int) = 1,
 (0 : Int) = 0]) := by kernel_rfl
theorem rp1_lp (w x a b : Int) (w0 : 0 ≤ w) (w1 : w < 2 ^ a.toNat) (x0 : 0 ≤ x) (x1 : x < 18446744073709551616) (a0 : 0 ≤ a) (ab : a ≤ b) (b1 : b ≤ 63) : rp1LP w x a b := by
  refine loop_rule ER1_ok (I := Nat) (fun i => rp1T w x a b i) (fun i => a.toNat - i) (fun i => i ≤ a.toNat) ?_ (fun ii hi => ?_)
  ·
    refine ⟨0, [], _, Nat.zero_le _, rp1i_1 .., (ob_cons rfl (ob_cons rfl (ob_cons rfl (ob_cons rfl (ob_cons rfl (ob_cons rfl ob_nil))))))⟩
  have hi : ii ≤ a.toNat := hi
  have e2 : IntKind.i64.wrap (Int.ofNat ii + 1) = Int.ofNat (ii + 1) := wrap_nat64 _ (by simp; omega) (by simp; omega)
  have e1 : ii < a.toNat → IntKind.u64.wrap (2 ^ ii * 2) = 2 ^ (ii + 1) := fun hin => by
    have := p2_63 (a := ii + 1) (by omega)
    have h0 := p2pos ii
    have hs : (2 : Int) ^ (ii + 1) = 2 ^ ii * 2 := Int.pow_succ ..
    rw [hs] at this ⊢
    exact u64w (by omega) (by omega)
  cases h1 : (decide (Int.ofNat ii < a)) with
  | true =>
    have g1 := of_decide_eq_true h1
    try simp only [Int.ofNat_eq_natCast, ge_iff_le, gt_iff_lt, Int.not_lt, Int.not_le] at g1
    refine round_norm (s0 := rp1U w x a b) (T := fun i => rp1T w x a b i) (i := ii) (ii + 1) (rp1r_1 ..) (ob_cons rfl (ob_cons rfl (ob_cons rfl (ob_cons rfl (ob_cons ?_ (ob_cons ?_ (ob_cons h1 ob_nil))))))) (by show ii + 1 ≤ a.toNat; omega) (by show a.toNat - (ii + 1) < a.toNat - ii; omega)
    · exact e1 (by omega)
    · exact wrap_nat64 _ (by simp; omega) (by simp; omega)
  | false =>
    have g1 := of_decide_eq_false h1
    try simp only [Int.ofNat_eq_natCast, ge_iff_le, gt_iff_lt, Int.not_lt, Int.not_le] at g1
    obtain rfl : a.toNat = ii := by omega
    refine round_exit (s0 := rp1U w x a b) (T := fun i => rp1T w x a b i) (i := a.toNat) (rp1r_2 ..) (by simp) (ob_cons rfl (ob_cons rfl (ob_cons rfl (ob_cons rfl (ob_cons rfl (ob_cons h1 ob_nil))))))
theorem rp2r_1 (w x a b : Int) (ii : Nat) : roundB ER1 2000 rp2L ((rp2U w x a b).hp) [] (rp2T w x a b ii) [Hint.b true, Hint.b true] (rp2T w x a b (ii + 1)) =
 some (Ex.norm, [IntKind.u64.wrap (w + x % 2 ^ ii * 2 ^ a.toNat + IntKind.u64.wrap (p2 (a.toNat + ii))) = w + x % 2 ^ (ii + 1) * 2 ^ a.toNat,
 x = x,
 a = a,
 b = b,
 IntKind.u64.wrap (IntKind.u64.wrap (p2 (a.toNat + ii)) * 2) = IntKind.u64.wrap (p2 (a.toNat + (ii + 1))),
 IntKind.i64.wrap (Int.ofNat ii + 1) = Int.ofNat (ii + 1),
 (bitI x (Int.ofNat ii) == 1) = true,
 0 ≤ x,
 x < 18446744073709551616,
 0 ≤ Int.ofNat ii,
 Int.ofNat ii ≤ 64,
 decide (Int.ofNat ii ≤ IntKind.i64.wrap (b - a)) = true]) := by kernel_rfl
theorem rp2r_2 (w x a b : Int) (ii : Nat) : roundB ER1 2000 rp2L ((rp2U w x a b).hp) [] (rp2T w x a b ii) [Hint.b true, Hint.b false] (rp2T w x a b (ii + 1)) =
 some (Ex.norm, [w + x % 2 ^ ii * 2 ^ a.toNat = w + x % 2 ^ (ii + 1) * 2 ^ a.toNat,
 x = x,
 a = a,
 b = b,
 IntKind.u64.wrap (IntKind.u64.wrap (p2 (a.toNat + ii)) * 2) = IntKind.u64.wrap (p2 (a.toNat + (ii + 1))),
 IntKind.i64.wrap (Int.ofNat ii + 1) = Int.ofNat (ii + 1),
 (bitI x (Int.ofNat ii) == 1) = false,
 0 ≤ x,
 x < 18446744073709551616,
 0 ≤ Int.ofNat ii,
 Int.ofNat ii ≤ 64,
 decide (Int.ofNat ii ≤ IntKind.i64.wrap (b - a)) = true]) := by kernel_rfl
theorem rp2r_3 (w x a b : Int) (ii : Nat) : roundB ER1 2000 rp2L ((rp2U w x a b).hp) [] (rp2T w x a b ii) [Hint.b false] (rp2X w x a b ii) =
 some (Ex.exit 2, [w + x % 2 ^ ii * 2 ^ a.toNat = w + x % 2 ^ ii * 2 ^ a.toNat,
 decide (Int.ofNat ii ≤ IntKind.i64.wrap (b - a)) = false]) := by kernel_rfl
theorem rp2i_1 (w x a b : Int) : castSt ((rp2U w x a b).hp) [] (rp2U w x a b) (rp2T w x a b 0) =
 some ([w = w + x % 1 * 2 ^ a.toNat,
 x = x,
 a = a,
 b = b,
 p2 a.toNat = IntKind.u64.wrap (p2 (a.toNat + 0)),
 (0 : Int) = 0]) := by kernel_rfl
theorem rp2_lp (w x a b : Int) (w0 : 0 ≤ w) (w1 : w < 2 ^ a.toNat) (x0 : 0 ≤ x) (x1 : x < 18446744073709551616) (a0 : 0 ≤ a) (ab : a ≤ b) (b1 : b ≤ 63) : rp2LP w x a b := by
  refine loop_rule ER1_ok (I := Nat) (fun i => rp2T w x a b i) (fun i => ((b + 1 - a).toNat) - i) (fun i => i ≤ ((b + 1 - a).toNat)) ?_ (fun ii hi => ?_)
  ·
    refine ⟨0, [], _, Nat.zero_le _, rp2i_1 .., (ob_cons ?_ (ob_cons rfl (ob_cons rfl (ob_cons rfl (ob_cons ?_ (ob_cons rfl ob_nil))))))⟩
    · (simp [Int.emod_one]; done)
    · exact ent0 ab b1
  have hi : ii ≤ ((b + 1 - a).toNat) := hi
  have e2 : IntKind.i64.wrap (Int.ofNat ii + 1) = Int.ofNat (ii + 1) := wrap_nat64 _ (by simp; omega) (by simp; omega)
  have eb : bitI x (Int.ofNat ii) = x / 2 ^ ii % 2 := rfl
  have ew : IntKind.i64.wrap (b - a) = b - a := i64w (by omega) (by omega)
  have e5 : ii < (b + 1 - a).toNat → IntKind.u64.wrap (IntKind.u64.wrap (2 ^ (a.toNat + ii)) * 2) = IntKind.u64.wrap (2 ^ (a.toNat + (ii + 1))) := fun hin => one_succ (by omega)
  have e3 : bitI x (Int.ofNat ii) = 1 → ii < (b + 1 - a).toNat → IntKind.u64.wrap (w + x % 2 ^ ii * 2 ^ a.toNat + IntKind.u64.wrap (2 ^ (a.toNat + ii))) = w + x % 2 ^ (ii + 1) * 2 ^ a.toNat := fun h hin => put_one w0 w1 x0 (by omega) (by rw [← eb]; exact h)
  have e4 : bitI x (Int.ofNat ii) ≠ 1 → w + x % 2 ^ ii * 2 ^ a.toNat = w + x % 2 ^ (ii + 1) * 2 ^ a.toNat := fun h => put_zero x0 (by rw [← eb]; exact h)
  cases h1 : (decide (Int.ofNat ii ≤ IntKind.i64.wrap (b - a))) with
  | true =>
    have g1 := of_decide_eq_true h1
    try simp only [Int.ofNat_eq_natCast, ge_iff_le, gt_iff_lt, Int.not_lt, Int.not_le] at g1
    cases h2 : (bitI x (Int.ofNat ii) == 1) with
    | true =>
      refine round_norm (s0 := rp2U w x a b) (T := fun i => rp2T w x a b i) (i := ii) (ii + 1) (rp2r_1 ..) (ob_cons ?_ (ob_cons rfl (ob_cons rfl (ob_cons rfl (ob_cons ?_ (ob_cons ?_ (ob_cons h2 (ob_cons ?_ (ob_cons ?_ (ob_cons ?_ (ob_cons ?_ (ob_cons h1 ob_nil)))))))))))) (by show ii + 1 ≤ ((b + 1 - a).toNat); omega) (by show ((b + 1 - a).toNat) - (ii + 1) < ((b + 1 - a).toNat) - ii; omega)
      · exact e3 (by simpa using h2) (by omega)
      · exact e5 (by omega)
      · exact wrap_nat64 _ (by simp; omega) (by simp; omega)
      · omega
      · omega
      · (simp; done)
      · (simp; omega)
    | false =>
      refine round_norm (s0 := rp2U w x a b) (T := fun i => rp2T w x a b i) (i := ii) (ii + 1) (rp2r_2 ..) (ob_cons ?_ (ob_cons rfl (ob_cons rfl (ob_cons rfl (ob_cons ?_ (ob_cons ?_ (ob_cons h2 (ob_cons ?_ (ob_cons ?_ (ob_cons ?_ (ob_cons ?_ (ob_cons h1 ob_nil)))))))))))) (by show ii + 1 ≤ ((b + 1 - a).toNat); omega) (by show ((b + 1 - a).toNat) - (ii + 1) < ((b + 1 - a).toNat) - ii; omega)
      · exact e4 (by simpa using h2)
      · exact e5 (by omega)
      · exact wrap_nat64 _ (by simp; omega) (by simp; omega)
      · omega
      · omega
      · (simp; done)
      · (simp; omega)
  | false =>
    have g1 := of_decide_eq_false h1
    try simp only [Int.ofNat_eq_natCast, ge_iff_le, gt_iff_lt, Int.not_lt, Int.not_le] at g1
    obtain rfl : ((b + 1 - a).toNat) = ii := by omega
    refine round_exit (s0 := rp2U w x a b) (T := fun i => rp2T w x a b i) (i := ((b + 1 - a).toNat)) (rp2r_3 ..) (by simp) (ob_cons rfl (ob_cons h1 ob_nil))
theorem rput_1 (w x a b : Int) : callB ER1 2000 173 [AV.sym IntKind.u64 w, AV.sym IntKind.u64 x, AV.sym IntKind.i64 a, AV.sym IntKind.i64 b] (rputH w x a b) (rputR w x a b) [] [Hint.lp [0, 1, 2, 3, 9, 10] (Ex.exit 0) (rp1X w x a b a.toNat).tmps [] 1 [], Hint.lp [0, 1, 2, 3, 9, 11] (Ex.exit 2) (rp2X w x a b (b + 1 - a).toNat).tmps [] 1 []] =
 some ([w + x % 2 ^ (b + 1 - a).toNat * 2 ^ a.toNat = putI w x a b,
 rp2LP w x a b,
 rp1LP w x a b]) := by kernel_rfl
theorem rput_loc (w x a b : Int) : LocOk Tryd.prog 173 [.sym .u64 w, .sym .u64 x, .sym .i64 a, .sym .i64 b] (rputH w x a b) (rputR w x a b) := by
  refine loc_of_call ER1_ok (fun hp => ?_)
  have w0 : 0 ≤ w := hp _ (List.mem_cons_self ..)
  have w1 : w < 2 ^ a.toNat := hp _ (List.mem_cons_of_mem _ (List.mem_cons_self ..))
  have x0 : 0 ≤ x := hp _ (List.mem_cons_of_mem _ (List.mem_cons_of_mem _ (List.mem_cons_self ..)))
  have x1 : x < 18446744073709551616 := hp _ (List.mem_cons_of_mem _ (List.mem_cons_of_mem _ (List.mem_cons_of_mem _ (List.mem_cons_self ..))))
  have a0 : 0 ≤ a := hp _ (List.mem_cons_of_mem _ (List.mem_cons_of_mem _ (List.mem_cons_of_mem _ (List.mem_cons_of_mem _ (List.mem_cons_self ..)))))
  have ab : a ≤ b := hp _ (List.mem_cons_of_mem _ (List.mem_cons_of_mem _ (List.mem_cons_of_mem _ (List.mem_cons_of_mem _ (List.mem_cons_of_mem _ (List.mem_cons_self ..))))))
  have b1 : b ≤ 63 := hp _ (List.mem_cons_of_mem _ (List.mem_cons_of_mem _ (List.mem_cons_of_mem _ (List.mem_cons_of_mem _ (List.mem_cons_of_mem _ (List.mem_cons_of_mem _ (List.mem_cons_self ..)))))))
  clear hp
  have hl1 := rp1_lp w x a b w0 w1 x0 x1 a0 ab b1
  have hl2 := rp2_lp w x a b w0 w1 x0 x1 a0 ab b1
  refine ⟨2000, _, _, _, rput_1 .., (ob_cons ?_ (ob_cons ?_ (ob_cons ?_ ob_nil)))⟩
  · exact rfl
  · with_reducible exact hl2
  · with_reducible exact hl1
noncomputable def rputSpec : LSpec := fun la lh => match la, lh with
  | [.sym .u64 w, .sym .u64 x, .sym .i64 a, .sym .i64 b], [] => some (rputR w x a b)
  | _, _ => none
theorem rputSpec_ok (la : List AV) (lh : List (Nat × AO)) (R : LR) (h : rputSpec la lh = some R) : LocOk Tryd.prog 173 la lh R := by
  unfold rputSpec at h
  split at h
  · rename_i w x a b
    cases h
    exact rput_loc w x a b
  · cases h

end Go.Proofs.YtmndhjodbnojdaaDoor
