/-
  SameWords: the loop.
-/
import Derived.Test.YtlpcdjhojfopjaaGreatDoorZYi
set_option linter.unusedSimpArgs false
set_option linter.unusedVariables false
namespace Go.Proofs.YtlpcdjhojfopjaaGreatDoor
open Go.Ev
theorem swlr_3 (A B : List (K3 × Int)) (ii : Nat) : roundB EM0 2000 swlL ((swlU A B).hp) [] (swlT A B ii) [Hint.b true, Hint.node [(11, [Hint.b false])], Hint.b false] (swlT A B (ii + 1)) =
 some (Ex.norm, [(0 : Nat) = 0,
 A.length = A.length,
 some A.length = some A.length,
 (0 : Nat) = 0,
 B.length = B.length,
 (none : Option Nat) = none,
 IntKind.i64.wrap (Int.ofNat ii + 1) = Int.ofNat (ii + 1),
 false = false,
 A.length ≤ A.length,
 wdF (wdAt A) = wdF (wdAt A) ∧ plainSh wSh = true ∨ ∀ (i : Nat), i < A.length → rowOb wSh 0 (wdF (wdAt A) i) (wdF (wdAt A) i),
 false = false,
 B.length ≤ B.length,
 wdF (wdAt B) = wdF (wdAt B) ∧ plainSh wSh = true ∨ ∀ (i : Nat), i < B.length → rowOb wSh 0 (wdF (wdAt B) i) (wdF (wdAt B) i),
 ((wdAt A (0 + ii)).4 != (wdAt B (0 + ii)).4) = false,
 (0 + ii).blt B.length = true,
 (ii.blt B.length && decide (0 ≤ Int.ofNat ii)) = true,
 (0 + ii).blt A.length = true,
 (ii.blt A.length && decide (0 ≤ Int.ofNat ii)) = true,
 (and2 ((wdAt A (0 + ii)).1 == (wdAt B (0 + ii)).1) (and2 ((wdAt A (0 + ii)).2 == (wdAt B (0 + ii)).2) (and2 ((wdAt A (0 + ii)).3 == (wdAt B (0 + ii)).3) true)) == false) = false,
 (0 + ii).blt B.length = true,
 (ii.blt B.length && decide (0 ≤ Int.ofNat ii)) = true,
 (0 + ii).blt A.length = true,
 (ii.blt A.length && decide (0 ≤ Int.ofNat ii)) = true,
 decide (Int.ofNat ii < Int.ofNat A.length) = true]) := by kernel_rfl
theorem swlr_4 (A B : List (K3 × Int)) (ii : Nat) : roundB EM0 2000 swlL ((swlU A B).hp) [] (swlT A B ii) [Hint.b false] (swlX A B ii) =
 some (Ex.exit 0, [(0 : Nat) = 0,
 A.length = A.length,
 some A.length = some A.length,
 (0 : Nat) = 0,
 B.length = B.length,
 (none : Option Nat) = none,
 false = false,
 A.length ≤ A.length,
 wdF (wdAt A) = wdF (wdAt A) ∧ plainSh wSh = true ∨ ∀ (i : Nat), i < A.length → rowOb wSh 0 (wdF (wdAt A) i) (wdF (wdAt A) i),
 false = false,
 B.length ≤ B.length,
 wdF (wdAt B) = wdF (wdAt B) ∧ plainSh wSh = true ∨ ∀ (i : Nat), i < B.length → rowOb wSh 0 (wdF (wdAt B) i) (wdF (wdAt B) i),
 decide (Int.ofNat ii < Int.ofNat A.length) = false]) := by kernel_rfl
theorem swli_1 (A B : List (K3 × Int)) : castSt ((swlU A B).hp) [] (swlU A B) (swlT A B 0) =
 some ([(0 : Nat) = 0,
 A.length = A.length,
 some A.length = some A.length,
 (0 : Nat) = 0,
 B.length = B.length,
 (none : Option Nat) = none,
 (0 : Int) = 0,
 false = false,
 A.length ≤ A.length,
 wdF (wdAt A) = wdF (wdAt A) ∧ plainSh wSh = true ∨ ∀ (i : Nat), i < A.length → rowOb wSh 0 (wdF (wdAt A) i) (wdF (wdAt A) i),
 false = false,
 B.length ≤ B.length,
 wdF (wdAt B) = wdF (wdAt B) ∧ plainSh wSh = true ∨ ∀ (i : Nat), i < B.length → rowOb wSh 0 (wdF (wdAt B) i) (wdF (wdAt B) i)]) := by kernel_rfl
theorem swl_lp (A B : List (K3 × Int)) (hAB : A = B) (hA : A.length ≤ 1000000) : swlLP A B := by
  refine loop_rule EM0_ok (I := Nat) (fun i => swlT A B i) (fun i => A.length - i) (fun i => i ≤ A.length) ?_ (fun ii hi => ?_)
  ·
    refine ⟨0, [], _, Nat.zero_le _, swli_1 .., (ob_cons rfl (ob_cons rfl (ob_cons rfl (ob_cons rfl (ob_cons rfl (ob_cons rfl (ob_cons rfl (ob_cons rfl (ob_cons (Nat.le_refl _) (ob_cons (.inl ⟨rfl, rfl⟩) (ob_cons rfl (ob_cons (Nat.le_refl _) (ob_cons (.inl ⟨rfl, rfl⟩) ob_nil)))))))))))))⟩
  have hi : ii ≤ A.length := hi
  cases h1 : (decide (Int.ofNat ii < Int.ofNat A.length)) with
  | true =>
    have g1 := of_decide_eq_true h1
    try simp only [Int.ofNat_eq_natCast, ge_iff_le, gt_iff_lt, Int.not_lt, Int.not_le] at g1
    refine round_norm (s0 := swlU A B) (T := fun i => swlT A B i) (i := ii) (ii + 1) (swlr_3 ..) (ob_cons rfl (ob_cons rfl (ob_cons rfl (ob_cons rfl (ob_cons rfl (ob_cons rfl (ob_cons ?_ (ob_cons rfl (ob_cons (Nat.le_refl _) (ob_cons (.inl ⟨rfl, rfl⟩) (ob_cons rfl (ob_cons (Nat.le_refl _) (ob_cons (.inl ⟨rfl, rfl⟩) (ob_cons ?_ (ob_cons ?_ (ob_cons ?_ (ob_cons ?_ (ob_cons ?_ (ob_cons ?_ (ob_cons ?_ (ob_cons ?_ (ob_cons ?_ (ob_cons ?_ (ob_cons h1 ob_nil)))))))))))))))))))))))) (by show ii + 1 ≤ A.length; omega) (by show A.length - (ii + 1) < A.length - ii; omega)
    · exact wrap_nat64 _ (by simp; omega) (by simp; omega)
    · (subst hAB; simp; done)
    · (subst hAB; simp; omega)
    · (subst hAB; simp; omega)
    · (apply Nat.ble_eq_true_of_le; omega)
    · (simp [Nat.blt_eq]; omega)
    · (subst hAB; simp [and2_eq]; done)
    · (subst hAB; simp; omega)
    · (subst hAB; simp; omega)
    · (apply Nat.ble_eq_true_of_le; omega)
    · (simp [Nat.blt_eq]; omega)
  | false =>
    have g1 := of_decide_eq_false h1
    try simp only [Int.ofNat_eq_natCast, ge_iff_le, gt_iff_lt, Int.not_lt, Int.not_le] at g1
    obtain rfl : A.length = ii := by omega
    refine round_exit (s0 := swlU A B) (T := fun i => swlT A B i) (i := A.length) (swlr_4 ..) (by simp) (ob_cons rfl (ob_cons rfl (ob_cons rfl (ob_cons rfl (ob_cons rfl (ob_cons rfl (ob_cons rfl (ob_cons (Nat.le_refl _) (ob_cons (.inl ⟨rfl, rfl⟩) (ob_cons rfl (ob_cons (Nat.le_refl _) (ob_cons (.inl ⟨rfl, rfl⟩) (ob_cons h1 ob_nil)))))))))))))
end Go.Proofs.YtlpcdjhojfopjaaGreatDoor
