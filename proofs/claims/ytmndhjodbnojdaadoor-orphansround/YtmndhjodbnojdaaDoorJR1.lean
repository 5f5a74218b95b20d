/-
  The document's words: bit.
-/
import Derived.Test.YtmndhjodbnojdaaDoorJR1Def
set_option linter.unusedSimpArgs false
set_option linter.unusedVariables false
namespace Go.Proofs.YtmndhjodbnojdaaDoor
open Go.Ev
theorem rblr_1 (w b : Int) (ii : Nat) : roundB EM0 2000 rblL ((rblU w b).hp) [] (rblT w b ii) [Hint.b true] (rblT w b (ii + 1)) =
 some (Ex.norm, [IntKind.u64.wrap ((w / 2 ^ ii).tdiv 2) = w / 2 ^ (ii + 1),
 b = b,
 IntKind.i64.wrap (Int.ofNat ii + 1) = Int.ofNat (ii + 1),
 decide (Int.ofNat ii < b) = true]) := by kernel_rfl
theorem rblr_2 (w b : Int) (ii : Nat) : roundB EM0 2000 rblL ((rblU w b).hp) [] (rblT w b ii) [Hint.b false] (rblX w b ii) =
 some (Ex.exit 0, [w / 2 ^ ii = w / 2 ^ ii,
 b = b,
 decide (Int.ofNat ii < b) = false]) := by kernel_rfl
theorem rbli_1 (w b : Int) : castSt ((rblU w b).hp) [] (rblU w b) (rblT w b 0) =
 some ([w = w / 1,
 b = b,
 (0 : Int) = 0]) := by kernel_rfl
theorem rbl_lp (w b : Int) (w0 : 0 ≤ w) (w1 : w < 18446744073709551616) (b0 : 0 ≤ b) (b1 : b ≤ 64) : rblLP w b := by
  refine loop_rule EM0_ok (I := Nat) (fun i => rblT w b i) (fun i => b.toNat - i) (fun i => i ≤ b.toNat) ?_ (fun ii hi => ?_)
  ·
    refine ⟨0, [], _, Nat.zero_le _, rbli_1 .., (ob_cons ?_ (ob_cons rfl (ob_cons rfl ob_nil)))⟩
    · (simp; done)
  have hi : ii ≤ b.toNat := hi
  have hd := div_r w0 w1 ii
  have e1 : IntKind.u64.wrap ((w / 2 ^ ii).tdiv 2) = w / 2 ^ (ii + 1) := by rw [Int.tdiv_eq_ediv_of_nonneg hd.1, div_succ]; exact u64w (div_r w0 w1 _).1 (div_r w0 w1 _).2
  have e2 : IntKind.i64.wrap (Int.ofNat ii + 1) = Int.ofNat (ii + 1) := wrap_nat64 _ (by simp; omega) (by simp; omega)
  cases h1 : (decide (Int.ofNat ii < b)) with
  | true =>
    have g1 := of_decide_eq_true h1
    try simp only [Int.ofNat_eq_natCast, ge_iff_le, gt_iff_lt, Int.not_lt, Int.not_le] at g1
    refine round_norm (s0 := rblU w b) (T := fun i => rblT w b i) (i := ii) (ii + 1) (rblr_1 ..) (ob_cons ?_ (ob_cons rfl (ob_cons ?_ (ob_cons h1 ob_nil)))) (by show ii + 1 ≤ b.toNat; omega) (by show b.toNat - (ii + 1) < b.toNat - ii; omega)
    · exact e1
    · exact wrap_nat64 _ (by simp; omega) (by simp; omega)
  | false =>
    have g1 := of_decide_eq_false h1
    try simp only [Int.ofNat_eq_natCast, ge_iff_le, gt_iff_lt, Int.not_lt, Int.not_le] at g1
    obtain rfl : b.toNat = ii := by omega
    refine round_exit (s0 := rblU w b) (T := fun i => rblT w b i) (i := b.toNat) (rblr_2 ..) (by simp) (ob_cons rfl (ob_cons rfl (ob_cons h1 ob_nil)))
theorem rbit_1 (w b : Int) : callB EM0 2000 177 [AV.sym IntKind.u64 w, AV.sym IntKind.i64 b] (rbitH w b) (rbitR w b) [] [Hint.lp [0, 1, 5] (Ex.exit 0) (rblX w b b.toNat).tmps [] 1 []] =
 some ([(w / 2 ^ b.toNat).tmod 2 = bitI w b,
 rblLP w b]) := by kernel_rfl
theorem rbit_loc (w b : Int) : LocOk Tryd.prog 177 [.sym .u64 w, .sym .i64 b] (rbitH w b) (rbitR w b) := by
  refine loc_of_call EM0_ok (fun hp => ?_)
  have w0 : 0 ≤ w := hp _ (List.mem_cons_self ..)
  have w1 : w < 18446744073709551616 := hp _ (List.mem_cons_of_mem _ (List.mem_cons_self ..))
  have b0 : 0 ≤ b := hp _ (List.mem_cons_of_mem _ (List.mem_cons_of_mem _ (List.mem_cons_self ..)))
  have b1 : b ≤ 64 := hp _ (List.mem_cons_of_mem _ (List.mem_cons_of_mem _ (List.mem_cons_of_mem _ (List.mem_cons_self ..))))
  clear hp
  have hlp := rbl_lp w b w0 w1 b0 b1
  have e3 : (w / 2 ^ b.toNat).tmod 2 = bitI w b := by rw [Int.tmod_eq_emod_of_nonneg (div_r w0 w1 _).1]; rfl
  refine ⟨2000, _, _, _, rbit_1 .., (ob_cons ?_ (ob_cons ?_ ob_nil))⟩
  · exact e3
  · trivial
noncomputable def rbitSpec : LSpec := fun la lh => match la, lh with
  | [.sym .u64 w, .sym .i64 b], [] => some (rbitR w b)
  | _, _ => none
theorem rbitSpec_ok (la : List AV) (lh : List (Nat × AO)) (R : LR) (h : rbitSpec la lh = some R) : LocOk Tryd.prog 177 la lh R := by
  unfold rbitSpec at h
  split at h
  · rename_i w b
    cases h
    exact rbit_loc w b
  · cases h

end Go.Proofs.YtmndhjodbnojdaaDoor
