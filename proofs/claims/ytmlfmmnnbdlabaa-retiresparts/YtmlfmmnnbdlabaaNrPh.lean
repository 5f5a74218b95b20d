/-
  RetiresParts: the fourth loop.
-/
import Derived.Test.YtmlfmmnnbdlabaaNrPhDef
set_option linter.unusedSimpArgs false
set_option linter.unusedVariables false
namespace Go.Proofs.Ytmlfmmnnbdlabaa
open Go.Ev
theorem per_1 (n : Nat) (ii : Nat) : roundB ERp 2000 peL ((peU n).hp) [(3, Src.nm 5)] (peT n ii) [Hint.b true] (peT n (ii + 1)) =
 some (Ex.norm, [(0 : Nat) = 0,
 (0 : Nat) = 0,
 (0 : Nat) = 0,
 n = n,
 some n = some n,
 (0 : Nat) = 0,
 ii + 1 = ii + 1,
 (none : Option Nat) = none,
 IntKind.i64.wrap (Int.ofNat ii + 1) = Int.ofNat (ii + 1),
 false = false,
 ii + 1 ≤ ii + 1,
 (evF = fun i j => if i < ii then evF (0 + i) j else rowsOf 1 [ofVal (Value.bool true)] (i - ii) j) ∧ plainSh [CK.bool] = true ∨ ∀ (i : Nat), i < ii + 1 → rowOb [CK.bool] 0 (fun j => if i < ii then evF (0 + i) j else rowsOf 1 [ofVal (Value.bool true)] (i - ii) j) (evF i),
 ((ii + 1) * 1).ble 70368744177664 = true,
 (0 + ii).ble ii = true,
 decide (Int.ofNat ii < Int.ofNat n) = true]) := by kernel_rfl
theorem per_2 (n : Nat) (ii : Nat) : roundB ERp 2000 peL ((peU n).hp) [(3, Src.nm 3)] (peT n ii) [Hint.b false] (peX n ii) =
 some (Ex.exit 7, [(0 : Nat) = 0,
 (0 : Nat) = 0,
 (0 : Nat) = 0,
 n = n,
 some n = some n,
 (0 : Nat) = 0,
 ii = n,
 (none : Option Nat) = none,
 false = false,
 ii ≤ ii,
 evF = evF ∧ plainSh [CK.bool] = true ∨ ∀ (i : Nat), i < ii → rowOb [CK.bool] 0 (evF i) (evF i),
 decide (Int.ofNat ii < Int.ofNat n) = false]) := by kernel_rfl
theorem pei_1 (n : Nat) : castSt ((peU n).hp) [(3, Src.nil 1)] (peU n) (peT n 0) =
 some ([(0 : Nat) = 0,
 (0 : Nat) = 0,
 (0 : Nat) = 0,
 n = n,
 some n = some n,
 (0 : Nat) = 0,
 (0 : Nat) = 0,
 (none : Option Nat) = none,
 (0 : Int) = 0,
 (0 : Nat) = 0]) := by kernel_rfl
theorem pe_lp (n : Nat) (hn : n ≤ 1000000) : peLP n := by
  refine loop_rule ERp_ok (I := Nat) (fun i => peT n i) (fun i => n - i) (fun i => i ≤ n) ?_ (fun ii hi => ?_)
  ·
    refine ⟨0, [(3, Src.nil 1)], _, Nat.zero_le _, pei_1 .., (ob_cons rfl (ob_cons rfl (ob_cons rfl (ob_cons rfl (ob_cons rfl (ob_cons rfl (ob_cons rfl (ob_cons rfl (ob_cons rfl (ob_cons rfl ob_nil))))))))))⟩
  have hi : ii ≤ n := hi
  cases h1 : (decide (Int.ofNat ii < Int.ofNat n)) with
  | true =>
    have g1 := of_decide_eq_true h1
    try simp only [Int.ofNat_eq_natCast, ge_iff_le, gt_iff_lt, Int.not_lt, Int.not_le] at g1
    refine round_norm (s0 := peU n) (T := fun i => peT n i) (i := ii) (ii + 1) (per_1 ..) (ob_cons rfl (ob_cons rfl (ob_cons rfl (ob_cons rfl (ob_cons rfl (ob_cons rfl (ob_cons rfl (ob_cons rfl (ob_cons ?_ (ob_cons rfl (ob_cons (Nat.le_refl _) (ob_cons ?_ (ob_cons ?_ (ob_cons ?_ (ob_cons h1 ob_nil))))))))))))))) (by show ii + 1 ≤ n; omega) (by show n - (ii + 1) < n - ii; omega)
    ·
      first | exact wrap_nat64 _ (by simp; omega) (by simp; omega) | with_reducible assumption | exact .inr (ev_rows _) | (simp; done) | (simp; omega)
    ·
      first | exact .inl ⟨rfl, rfl⟩ | with_reducible assumption | exact .inr (ev_rows _) | (simp; done) | (simp; omega)
    ·
      first | (apply Nat.ble_eq_true_of_le; omega) | (simp [Nat.blt_eq]; omega) | with_reducible assumption | exact .inr (ev_rows _) | (simp; done) | (simp; omega)
    ·
      first | (apply Nat.ble_eq_true_of_le; omega) | (simp [Nat.blt_eq]; omega) | with_reducible assumption | exact .inr (ev_rows _) | (simp; done) | (simp; omega)
  | false =>
    have g1 := of_decide_eq_false h1
    try simp only [Int.ofNat_eq_natCast, ge_iff_le, gt_iff_lt, Int.not_lt, Int.not_le] at g1
    obtain rfl : n = ii := by omega
    refine round_exit (s0 := peU n) (T := fun i => peT n i) (i := n) (per_2 ..) (by simp) (ob_cons rfl (ob_cons rfl (ob_cons rfl (ob_cons rfl (ob_cons rfl (ob_cons rfl (ob_cons ?_ (ob_cons rfl (ob_cons rfl (ob_cons (Nat.le_refl _) (ob_cons (.inl ⟨rfl, rfl⟩) (ob_cons h1 ob_nil))))))))))))
    ·
      first | rfl | with_reducible assumption | exact .inr (ev_rows _) | (simp; done) | (simp; omega)
end Go.Proofs.Ytmlfmmnnbdlabaa
