/-
  SnapsStill: the loop over the words.
-/
import Derived.Test.YtmlfmmnnbdlabaaNSpDef
set_option linter.unusedSimpArgs false
set_option linter.unusedVariables false
namespace Go.Proofs.Ytmlfmmnnbdlabaa
open Go.Ev
theorem wla_1 (n : Nat) (g : Nat → Nat → AV) (A B : List (K3 × Int)) (X : MS) (ii : Nat) : roundB EM0 4000 wlL ((wlU n g A B X).hp) [] (wlT n g A B X ii) [Hint.b true, Hint.b false] (wlT n g A B X (ii + 1)) =
 some (Ex.norm, [(0 : Nat) = 0,
 A.length = A.length,
 some A.length = some A.length,
 (0 : Nat) = 0,
 B.length = B.length,
 some B.length = some B.length,
 IntKind.i64.wrap (Int.ofNat ii + 1) = Int.ofNat (ii + 1),
 true = true,
 n ≤ n,
 g = g ∧ plainSh tSh = true ∨ ∀ (i : Nat), i < n → rowOb tSh 0 (g i) (g i),
 false = false,
 A.length ≤ A.length,
 wdF (wdAt A) = wdF (wdAt A) ∧ plainSh wSh = true ∨ ∀ (i : Nat), i < A.length → rowOb wSh 0 (wdF (wdAt A) i) (wdF (wdAt A) i),
 false = false,
 B.length ≤ B.length,
 wdF (wdAt B) = wdF (wdAt B) ∧ plainSh wSh = true ∨ ∀ (i : Nat), i < B.length → rowOb wSh 0 (wdF (wdAt B) i) (wdF (wdAt B) i),
 (and2 (and2 ((wdAt B (0 + ii)).1 == (wdAt A (0 + ii)).1) (and2 ((wdAt B (0 + ii)).2 == (wdAt A (0 + ii)).2) (and2 ((wdAt B (0 + ii)).3 == (wdAt A (0 + ii)).3) true))) (and2 ((wdAt B (0 + ii)).4 == (wdAt A (0 + ii)).4) true) == false) = false,
 (0 + ii).blt A.length = true,
 (ii.blt A.length && decide (0 ≤ Int.ofNat ii)) = true,
 (0 + ii).blt B.length = true,
 (ii.blt B.length && decide (0 ≤ Int.ofNat ii)) = true,
 decide (Int.ofNat ii < Int.ofNat B.length) = true]) := by kernel_rfl
theorem wlx_1 (n : Nat) (g : Nat → Nat → AV) (A B : List (K3 × Int)) (X : MS) (ii : Nat) : roundB EM0 4000 wlL ((wlU n g A B X).hp) [] (wlT n g A B X ii) [Hint.b false] (wlX n g A B X) =
 some (Ex.exit 2, [true = true,
 n ≤ n,
 g = g ∧ plainSh tSh = true ∨ ∀ (i : Nat), i < n → rowOb tSh 0 (g i) (g i),
 decide (Int.ofNat ii < Int.ofNat B.length) = false]) := by kernel_rfl
theorem wli_1 (n : Nat) (g : Nat → Nat → AV) (A B : List (K3 × Int)) (X : MS) : castSt ((wlU n g A B X).hp) [] (wlU n g A B X) (wlT n g A B X 0) =
 some ([(0 : Nat) = 0,
 A.length = A.length,
 some A.length = some A.length,
 (0 : Nat) = 0,
 B.length = B.length,
 some B.length = some B.length,
 (0 : Int) = 0,
 true = true,
 n ≤ n,
 g = g ∧ plainSh tSh = true ∨ ∀ (i : Nat), i < n → rowOb tSh 0 (g i) (g i),
 false = false,
 A.length ≤ A.length,
 wdF (wdAt A) = wdF (wdAt A) ∧ plainSh wSh = true ∨ ∀ (i : Nat), i < A.length → rowOb wSh 0 (wdF (wdAt A) i) (wdF (wdAt A) i),
 false = false,
 B.length ≤ B.length,
 wdF (wdAt B) = wdF (wdAt B) ∧ plainSh wSh = true ∨ ∀ (i : Nat), i < B.length → rowOb wSh 0 (wdF (wdAt B) i) (wdF (wdAt B) i)]) := by kernel_rfl
theorem wl_lp (n : Nat) (g : Nat → Nat → AV) (A B : List (K3 × Int)) (X : MS) (hAB : A = B) (hB : B.length ≤ 1000000) : wlLP n g A B X := by
  subst hAB
  refine loop_rule EM0_ok (I := Nat) (fun i => wlT n g A A X i) (fun i => A.length - i) (fun i => i ≤ A.length) ?_ (fun ii hi => ?_)
  ·
    refine ⟨0, [], _, Nat.zero_le _, wli_1 .., (ob_cons rfl (ob_cons rfl (ob_cons rfl (ob_cons rfl (ob_cons rfl (ob_cons rfl (ob_cons rfl (ob_cons rfl (ob_cons (Nat.le_refl _) (ob_cons (.inl ⟨rfl, rfl⟩) (ob_cons rfl (ob_cons (Nat.le_refl _) (ob_cons (.inl ⟨rfl, rfl⟩) (ob_cons rfl (ob_cons (Nat.le_refl _) (ob_cons (.inl ⟨rfl, rfl⟩) ob_nil))))))))))))))))⟩
  have hi : ii ≤ A.length := hi
  by_cases hin : ii < A.length
  · have h1 : decide (Int.ofNat ii < Int.ofNat A.length) = true := decide_eq_true (by simp; omega)
    have h2 : IntKind.i64.wrap (Int.ofNat ii + 1) = Int.ofNat (ii + 1) := wrap_nat64 _ (by simp; omega) (by simp; omega)
    have h3 : (ii.blt A.length && decide (0 ≤ Int.ofNat ii)) = true := by rw [Bool.and_eq_true]; exact ⟨by simpa [Nat.blt_eq] using hin, decide_eq_true (by simp)⟩
    have h4 : (0 + ii).blt A.length = true := by rw [Nat.zero_add]; simpa [Nat.blt_eq] using hin
    refine round_norm (s0 := wlU n g A A X) (T := fun i => wlT n g A A X i) (i := ii) (ii + 1) (wla_1 n g A A X ii) (ob_cons rfl (ob_cons rfl (ob_cons rfl (ob_cons rfl (ob_cons rfl (ob_cons rfl (ob_cons ?_ (ob_cons rfl (ob_cons (Nat.le_refl _) (ob_cons (.inl ⟨rfl, rfl⟩) (ob_cons rfl (ob_cons (Nat.le_refl _) (ob_cons (.inl ⟨rfl, rfl⟩) (ob_cons rfl (ob_cons (Nat.le_refl _) (ob_cons (.inl ⟨rfl, rfl⟩) (ob_cons ?_ (ob_cons ?_ (ob_cons ?_ (ob_cons ?_ (ob_cons ?_ (ob_cons ?_ ob_nil)))))))))))))))))))))) (by show ii + 1 ≤ A.length; omega) (by show A.length - (ii + 1) < A.length - ii; omega)
    · with_reducible assumption
    · (simp [and2_eq]; done)
    · with_reducible assumption
    · with_reducible assumption
    · with_reducible assumption
    · with_reducible assumption
    · with_reducible assumption
  · obtain rfl : A.length = ii := by omega
    have h1 : decide (Int.ofNat A.length < Int.ofNat A.length) = false := decide_eq_false (by simp)
    refine round_exit (s0 := wlU n g A A X) (T := fun i => wlT n g A A X i) (i := A.length) (wlx_1 n g A A X A.length) (by simp) (ob_cons rfl (ob_cons (Nat.le_refl _) (ob_cons (.inl ⟨rfl, rfl⟩) (ob_cons ?_ ob_nil))))
    · with_reducible assumption

end Go.Proofs.Ytmlfmmnnbdlabaa
