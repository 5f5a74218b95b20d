/-
  ZSwl and what follows it.
-/
import Derived.Test.YtlpcdjhojfopjaaGreatDoorZYi
import Derived.Test.YtlpcdjhojfopjaaGreatDoorEvFam
/-
  SameWords: the loop.
-/
set_option linter.unusedSimpArgs false
set_option linter.unusedVariables false
namespace Go.Proofs.YtlpcdjhojfopjaaGreatDoor
open Go.Ev
theorem swlr_3 (A B : List (K3 × Int)) (ii : Nat) : roundB EM0 2000 swlL ((swlU A B).hp) [] (swlT A B ii) [Hint.b true, Hint.node [(11, [Hint.b false])], Hint.b false] (swlT A B (ii + 1)) =
 some (Ex.norm, [(0 : Nat) = 0,
 A.length = A.length,
 some A.length = some A.length,
 (0 : Nat) = 0,
 B.length = B.length,
 (none : Option Nat) = none,
 IntKind.i64.wrap (Int.ofNat ii + 1) = Int.ofNat (ii + 1),
 false = false,
 A.length ≤ A.length,
 wdF (wdAt A) = wdF (wdAt A) ∧ plainSh wSh = true ∨ ∀ (i : Nat), i < A.length → rowOb wSh 0 (wdF (wdAt A) i) (wdF (wdAt A) i),
 false = false,
 B.length ≤ B.length,
 wdF (wdAt B) = wdF (wdAt B) ∧ plainSh wSh = true ∨ ∀ (i : Nat), i < B.length → rowOb wSh 0 (wdF (wdAt B) i) (wdF (wdAt B) i),
 ((wdAt A (0 + ii)).4 != (wdAt B (0 + ii)).4) = false,
 (0 + ii).blt B.length = true,
 (ii.blt B.length && decide (0 ≤ Int.ofNat ii)) = true,
 (0 + ii).blt A.length = true,
 (ii.blt A.length && decide (0 ≤ Int.ofNat ii)) = true,
 (and2 ((wdAt A (0 + ii)).1 == (wdAt B (0 + ii)).1) (and2 ((wdAt A (0 + ii)).2 == (wdAt B (0 + ii)).2) (and2 ((wdAt A (0 + ii)).3 == (wdAt B (0 + ii)).3) true)) == false) = false,
 (0 + ii).blt B.length = true,
 (ii.blt B.length && decide (0 ≤ Int.ofNat ii)) = true,
 (0 + ii).blt A.length = true,
 (ii.blt A.length && decide (0 ≤ Int.ofNat ii)) = true,
 decide (Int.ofNat ii < Int.ofNat A.length) = true]) := by kernel_rfl
theorem swlr_4 (A B : List (K3 × Int)) (ii : Nat) : roundB EM0 2000 swlL ((swlU A B).hp) [] (swlT A B ii) [Hint.b false] (swlX A B ii) =
 some (Ex.exit 0, [(0 : Nat) = 0,
 A.length = A.length,
 some A.length = some A.length,
 (0 : Nat) = 0,
 B.length = B.length,
 (none : Option Nat) = none,
 false = false,
 A.length ≤ A.length,
 wdF (wdAt A) = wdF (wdAt A) ∧ plainSh wSh = true ∨ ∀ (i : Nat), i < A.length → rowOb wSh 0 (wdF (wdAt A) i) (wdF (wdAt A) i),
 false = false,
 B.length ≤ B.length,
 wdF (wdAt B) = wdF (wdAt B) ∧ plainSh wSh = true ∨ ∀ (i : Nat), i < B.length → rowOb wSh 0 (wdF (wdAt B) i) (wdF (wdAt B) i),
 decide (Int.ofNat ii < Int.ofNat A.length) = false]) := by kernel_rfl
theorem swli_1 (A B : List (K3 × Int)) : castSt ((swlU A B).hp) [] (swlU A B) (swlT A B 0) =
 some ([(0 : Nat) = 0,
 A.length = A.length,
 some A.length = some A.length,
 (0 : Nat) = 0,
 B.length = B.length,
 (none : Option Nat) = none,
 (0 : Int) = 0,
 false = false,
 A.length ≤ A.length,
 wdF (wdAt A) = wdF (wdAt A) ∧ plainSh wSh = true ∨ ∀ (i : Nat), i < A.length → rowOb wSh 0 (wdF (wdAt A) i) (wdF (wdAt A) i),
 false = false,
 B.length ≤ B.length,
 wdF (wdAt B) = wdF (wdAt B) ∧ plainSh wSh = true ∨ ∀ (i : Nat), i < B.length → rowOb wSh 0 (wdF (wdAt B) i) (wdF (wdAt B) i)]) := by kernel_rfl
theorem swl_lp (A B : List (K3 × Int)) (hAB : A = B) (hA : A.length ≤ 1000000) : swlLP A B := by
  refine loop_rule EM0_ok (I := Nat) (fun i => swlT A B i) (fun i => A.length - i) (fun i => i ≤ A.length) ?_ (fun ii hi => ?_)
  ·
    refine ⟨0, [], _, Nat.zero_le _, swli_1 .., (cj ⟨rfl, rfl, rfl, rfl, rfl, rfl, rfl, rfl, Nat.le_refl _, .inl ⟨rfl, rfl⟩, rfl, Nat.le_refl _, .inl ⟨rfl, rfl⟩, trivial⟩)⟩
  have hi : ii ≤ A.length := hi
  cases h1 : (decide (Int.ofNat ii < Int.ofNat A.length)) with
  | true =>
    have g1 := of_decide_eq_true h1
    try simp only [Int.ofNat_eq_natCast, ge_iff_le, gt_iff_lt, Int.not_lt, Int.not_le] at g1
    refine round_norm (s0 := swlU A B) (T := fun i => swlT A B i) (i := ii) (ii + 1) (swlr_3 ..) (cj ⟨rfl, rfl, rfl, rfl, rfl, rfl, wrap_nat64 _ (by simp; omega) (by simp; omega), rfl, Nat.le_refl _, .inl ⟨rfl, rfl⟩, rfl, Nat.le_refl _, .inl ⟨rfl, rfl⟩, (by (subst hAB; simp; done)), (by (subst hAB; simp; omega)), (by (subst hAB; simp; omega)), (by (apply Nat.ble_eq_true_of_le; omega)), (by (try simp [Nat.blt_eq]); omega), (by (subst hAB; simp [and2_eq]; done)), (by (subst hAB; simp; omega)), (by (subst hAB; simp; omega)), (by (apply Nat.ble_eq_true_of_le; omega)), (by (try simp [Nat.blt_eq]); omega), h1, trivial⟩) (by show ii + 1 ≤ A.length; omega) (by show A.length - (ii + 1) < A.length - ii; omega)
  | false =>
    have g1 := of_decide_eq_false h1
    try simp only [Int.ofNat_eq_natCast, ge_iff_le, gt_iff_lt, Int.not_lt, Int.not_le] at g1
    obtain rfl : A.length = ii := by omega
    refine round_exit (s0 := swlU A B) (T := fun i => swlT A B i) (i := A.length) (swlr_4 ..) (by simp) (cj ⟨rfl, rfl, rfl, rfl, rfl, rfl, rfl, Nat.le_refl _, .inl ⟨rfl, rfl⟩, rfl, Nat.le_refl _, .inl ⟨rfl, rfl⟩, h1, trivial⟩)
end Go.Proofs.YtlpcdjhojfopjaaGreatDoor

/-
  SameWords, Same: definitions.
-/
set_option linter.unusedSimpArgs false
set_option linter.unusedVariables false
namespace Go.Proofs.YtlpcdjhojfopjaaGreatDoor
open Go.Ev
noncomputable def ESw : Env := envG Tryz.prog [(70, locSP wdsSpec), (71, locSP rwwSpec)]
theorem ESw_ok : EnvOk ESw := envG_ok mgood ⟨locSP_ok wdsSpec_ok, locSP_ok rwwSpec_ok, trivial⟩

noncomputable def swwH (S : MS) (n l : Nat) (g : Nat → Nat → AV) (s2 : Int) (L2 : LS) : List (Nat × AO) := [(1, .cells 9 (.map 2 :: lsL S.st S.L)), (2, .map 250 S.M), (3, .cells 9 (.ss 4 4 0 n none :: lsL s2 L2)), (4, .arr 4 wSh false l g)]
noncomputable def swwR (S : MS) (n l : Nat) (g : Nat → Nat → AV) (s2 : Int) (L2 : LS) : LR := ⟨4, .bool true, [(1, .cells 9 (.map 2 :: lsL S.st S.L)), (2, .map 250 S.M), (3, .cells 9 (.ss 4 4 0 n none :: lsL s2 L2)), (4, .arr 4 wSh false l g)], 0, [], [n ≤ l, n ≤ 100000, FinM S.M 1000000, wlF S.M = rwl (dOf n g) n]⟩
noncomputable def smeH (S : MS) (n l : Nat) (g : Nat → Nat → AV) (s2 : Int) (L2 : LS) : List (Nat × AO) := [(1, .cells 9 (.map 2 :: lsL S.st S.L)), (2, .map 250 S.M), (3, .cells 9 (.ss 4 4 0 n none :: lsL s2 L2)), (4, .arr 4 wSh false l g)]
noncomputable def smeR (S : MS) (n l : Nat) (g : Nat → Nat → AV) (s2 : Int) (L2 : LS) : LR := ⟨4, .bool true, [(1, .cells 9 (.map 2 :: lsL S.st S.L)), (2, .map 250 S.M), (3, .cells 9 (.ss 4 4 0 n none :: lsL s2 L2)), (4, .arr 4 wSh false l g)], 0, [], [Both S (mkR n g s2 L2)]⟩
end Go.Proofs.YtlpcdjhojfopjaaGreatDoor
