/-
  StallsAny: its loop.
-/
import Derived.Test.YtephpkfajobhmaaWSlDef
set_option linter.unusedSimpArgs false
set_option linter.unusedVariables false
namespace Go.Proofs.Ytephpkfajobhmaa
open Go.Ev
theorem saLr_1 (n : Nat) (g : Nat → Nat → AV) (sl ge : Int) (mk : Bool) (b ep er z0 z1 z2 : Int) (ii : Nat) : roundB ESl 2000 saLL ((saLU n g sl ge mk b ep er z0 z1 z2).hp) [] (saLT n g sl ge mk b ep er z0 z1 z2 ii) [Hint.b true, Hint.node [], Hint.b false] (saLT n g sl ge mk b ep er z0 z1 z2 (ii + 1)) =
 some (Ex.norm, [(0 : Nat) = 0,
 (fl (thOf g) n).length = (fl (thOf g) n).length,
 some (fl (thOf g) n).length = some (fl (thOf g) n).length,
 (0 : Nat) = 0,
 (fl (thOf g) n).length = (fl (thOf g) n).length,
 (none : Option Nat) = none,
 IntKind.i64.wrap (Int.ofNat ii + 1) = Int.ofNat (ii + 1),
 false = false,
 (fl (thOf g) n).length ≤ (fl (thOf g) n).length,
 flF (fl (thOf g) n) = flF (fl (thOf g) n) ∧ plainSh [CK.int IntKind.i64] = true ∨ ∀ (i : Nat), i < (fl (thOf g) n).length → rowOb [CK.int IntKind.i64] 0 (flF (fl (thOf g) n) i) (flF (fl (thOf g) n) i),
 false = false,
 (fl (thOf g) n).length ≤ (fl (thOf g) n).length,
 flF (fl (thOf g) n) = flF (fl (thOf g) n) ∧ plainSh [CK.int IntKind.i64] = true ∨ ∀ (i : Nat), i < (fl (thOf g) n).length → rowOb [CK.int IntKind.i64] 0 (flF (fl (thOf g) n) i) (flF (fl (thOf g) n) i),
 (Int.ofNat ((fl (thOf g) n)[0 + ii]?.getD 0) != Int.ofNat ((fl (thOf g) n)[0 + ii]?.getD 0)) = false,
 (0 + ii).blt (fl (thOf g) n).length = true,
 (ii.blt (fl (thOf g) n).length && decide (0 ≤ Int.ofNat ii)) = true,
 (0 + ii).blt (fl (thOf g) n).length = true,
 (ii.blt (fl (thOf g) n).length && decide (0 ≤ Int.ofNat ii)) = true,
 decide (Int.ofNat ii < Int.ofNat (fl (thOf g) n).length) = true]) := by kernel_rfl
theorem saLr_2 (n : Nat) (g : Nat → Nat → AV) (sl ge : Int) (mk : Bool) (b ep er z0 z1 z2 : Int) (ii : Nat) : roundB ESl 2000 saLL ((saLU n g sl ge mk b ep er z0 z1 z2).hp) [] (saLT n g sl ge mk b ep er z0 z1 z2 ii) [Hint.b false] (saLX n g sl ge mk b ep er z0 z1 z2 ii) =
 some (Ex.exit 0, [(0 : Nat) = 0,
 (fl (thOf g) n).length = (fl (thOf g) n).length,
 some (fl (thOf g) n).length = some (fl (thOf g) n).length,
 (0 : Nat) = 0,
 (fl (thOf g) n).length = (fl (thOf g) n).length,
 (none : Option Nat) = none,
 false = false,
 (fl (thOf g) n).length ≤ (fl (thOf g) n).length,
 flF (fl (thOf g) n) = flF (fl (thOf g) n) ∧ plainSh [CK.int IntKind.i64] = true ∨ ∀ (i : Nat), i < (fl (thOf g) n).length → rowOb [CK.int IntKind.i64] 0 (flF (fl (thOf g) n) i) (flF (fl (thOf g) n) i),
 false = false,
 (fl (thOf g) n).length ≤ (fl (thOf g) n).length,
 flF (fl (thOf g) n) = flF (fl (thOf g) n) ∧ plainSh [CK.int IntKind.i64] = true ∨ ∀ (i : Nat), i < (fl (thOf g) n).length → rowOb [CK.int IntKind.i64] 0 (flF (fl (thOf g) n) i) (flF (fl (thOf g) n) i),
 decide (Int.ofNat ii < Int.ofNat (fl (thOf g) n).length) = false]) := by kernel_rfl
theorem saLi_1 (n : Nat) (g : Nat → Nat → AV) (sl ge : Int) (mk : Bool) (b ep er z0 z1 z2 : Int) : castSt ((saLU n g sl ge mk b ep er z0 z1 z2).hp) [] (saLU n g sl ge mk b ep er z0 z1 z2) (saLT n g sl ge mk b ep er z0 z1 z2 0) =
 some ([(0 : Nat) = 0,
 (fl (thOf g) n).length = (fl (thOf g) n).length,
 some (fl (thOf g) n).length = some (fl (thOf g) n).length,
 (0 : Nat) = 0,
 (fl (thOf g) n).length = (fl (thOf g) n).length,
 (none : Option Nat) = none,
 (0 : Int) = 0,
 false = false,
 (fl (thOf g) n).length ≤ (fl (thOf g) n).length,
 flF (fl (thOf g) n) = flF (fl (thOf g) n) ∧ plainSh [CK.int IntKind.i64] = true ∨ ∀ (i : Nat), i < (fl (thOf g) n).length → rowOb [CK.int IntKind.i64] 0 (flF (fl (thOf g) n) i) (flF (fl (thOf g) n) i),
 false = false,
 (fl (thOf g) n).length ≤ (fl (thOf g) n).length,
 flF (fl (thOf g) n) = flF (fl (thOf g) n) ∧ plainSh [CK.int IntKind.i64] = true ∨ ∀ (i : Nat), i < (fl (thOf g) n).length → rowOb [CK.int IntKind.i64] 0 (flF (fl (thOf g) n) i) (flF (fl (thOf g) n) i)]) := by kernel_rfl
theorem saL_lp (n : Nat) (g : Nat → Nat → AV) (sl ge : Int) (mk : Bool) (b ep er z0 z1 z2 : Int) (hlen : (fl (thOf g) n).length ≤ 30) : saLLP n g sl ge mk b ep er z0 z1 z2 := by
  refine loop_rule ESl_ok (I := Nat) (fun i => saLT n g sl ge mk b ep er z0 z1 z2 i) (fun i => (fl (thOf g) n).length - i) (fun i => i ≤ (fl (thOf g) n).length) ?_ (fun ii hi => ?_)
  ·
    refine ⟨0, [], _, Nat.zero_le _, saLi_1 .., (ob_cons rfl (ob_cons rfl (ob_cons rfl (ob_cons rfl (ob_cons rfl (ob_cons rfl (ob_cons rfl (ob_cons rfl (ob_cons (Nat.le_refl _) (ob_cons (.inl ⟨rfl, rfl⟩) (ob_cons rfl (ob_cons (Nat.le_refl _) (ob_cons (.inl ⟨rfl, rfl⟩) ob_nil)))))))))))))⟩
  have hi : ii ≤ (fl (thOf g) n).length := hi
  cases h1 : (decide (Int.ofNat ii < Int.ofNat (fl (thOf g) n).length)) with
  | true =>
    have g1 := of_decide_eq_true h1
    try simp only [Int.ofNat_eq_natCast, ge_iff_le, gt_iff_lt, Int.not_lt, Int.not_le] at g1
    refine round_norm (s0 := saLU n g sl ge mk b ep er z0 z1 z2) (T := fun i => saLT n g sl ge mk b ep er z0 z1 z2 i) (i := ii) (ii + 1) (saLr_1 ..) (ob_cons rfl (ob_cons rfl (ob_cons rfl (ob_cons rfl (ob_cons rfl (ob_cons rfl (ob_cons ?_ (ob_cons rfl (ob_cons (Nat.le_refl _) (ob_cons (.inl ⟨rfl, rfl⟩) (ob_cons rfl (ob_cons (Nat.le_refl _) (ob_cons (.inl ⟨rfl, rfl⟩) (ob_cons ?_ (ob_cons ?_ (ob_cons ?_ (ob_cons ?_ (ob_cons ?_ (ob_cons h1 ob_nil))))))))))))))))))) (by show ii + 1 ≤ (fl (thOf g) n).length; omega) (by show (fl (thOf g) n).length - (ii + 1) < (fl (thOf g) n).length - ii; omega)
    ·
      first | exact wrap_nat64 _ (by simp; omega) (by simp; omega) | exact beq_self_eq_true _ | (simp; done) | omega
    ·
      first | (apply Nat.ble_eq_true_of_le; omega) | (simp [Nat.blt_eq]; omega) | exact beq_self_eq_true _ | (simp; done) | omega
    ·
      first | (apply Nat.ble_eq_true_of_le; omega) | (simp [Nat.blt_eq]; omega) | exact beq_self_eq_true _ | (simp; done) | omega
    ·
      first | (apply Nat.ble_eq_true_of_le; omega) | (simp [Nat.blt_eq]; omega) | exact beq_self_eq_true _ | (simp; done) | omega
    ·
      first | (apply Nat.ble_eq_true_of_le; omega) | (simp [Nat.blt_eq]; omega) | exact beq_self_eq_true _ | (simp; done) | omega
    ·
      first | (apply Nat.ble_eq_true_of_le; omega) | (simp [Nat.blt_eq]; omega) | exact beq_self_eq_true _ | (simp; done) | omega
  | false =>
    have g1 := of_decide_eq_false h1
    try simp only [Int.ofNat_eq_natCast, ge_iff_le, gt_iff_lt, Int.not_lt, Int.not_le] at g1
    obtain rfl : (fl (thOf g) n).length = ii := by omega
    refine round_exit (s0 := saLU n g sl ge mk b ep er z0 z1 z2) (T := fun i => saLT n g sl ge mk b ep er z0 z1 z2 i) (i := (fl (thOf g) n).length) (saLr_2 ..) (by simp) (ob_cons rfl (ob_cons rfl (ob_cons rfl (ob_cons rfl (ob_cons rfl (ob_cons rfl (ob_cons rfl (ob_cons (Nat.le_refl _) (ob_cons (.inl ⟨rfl, rfl⟩) (ob_cons rfl (ob_cons (Nat.le_refl _) (ob_cons (.inl ⟨rfl, rfl⟩) (ob_cons h1 ob_nil)))))))))))))
end Go.Proofs.Ytephpkfajobhmaa
