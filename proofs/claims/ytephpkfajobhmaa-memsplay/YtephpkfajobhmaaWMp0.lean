/-
  MemsPlay: the inner loop.
-/
import Derived.Test.YtephpkfajobhmaaWMp0Def
set_option linter.unusedSimpArgs false
set_option linter.unusedVariables false
namespace Go.Proofs.Ytephpkfajobhmaa
open Go.Ev
theorem mplr_1 (A : List (K3 × Int)) (m io : Nat) (ii : Nat) : roundB EM0 2000 mplL ((mplU A m io).hp) [] (mplT A m io ii) [Hint.b true] (mplT A m io (ii + 1)) =
 some (Ex.norm, [(0 : Nat) = 0,
 m = m,
 (none : Option Nat) = none,
 (0 : Nat) = 0,
 (0 : Nat) = 0,
 Int.ofNat io = Int.ofNat io,
 (0 : Nat) = 0,
 A.length = A.length,
 some A.length = some A.length,
 IntKind.i64.wrap (Int.ofNat ii + 1) = Int.ofNat (ii + 1),
 false = false,
 A.length ≤ A.length,
 sp77 A (ii + 1) = upd (sp77 A ii) (0 + ii) 3 (ofVal (Value.int IntKind.u64 77)).cells ∧ plainSh wSh = true ∨ ∀ (i : Nat), i < A.length → rowOb wSh 0 (upd (sp77 A ii) (0 + ii) 3 (ofVal (Value.int IntKind.u64 77)).cells i) (sp77 A (ii + 1) i),
 (0 + ii).blt A.length = true,
 (ii.blt A.length && decide (0 ≤ Int.ofNat ii)) = true,
 decide (Int.ofNat ii < Int.ofNat A.length) = true]) := by kernel_rfl
theorem mplr_2 (A : List (K3 × Int)) (m io : Nat) (ii : Nat) : roundB EM0 2000 mplL ((mplU A m io).hp) [] (mplT A m io ii) [Hint.b false] (mplX A m io ii) =
 some (Ex.exit 3, [(0 : Nat) = 0,
 m = m,
 (none : Option Nat) = none,
 (0 : Nat) = 0,
 (0 : Nat) = 0,
 Int.ofNat io = Int.ofNat io,
 (0 : Nat) = 0,
 A.length = A.length,
 some A.length = some A.length,
 false = false,
 A.length ≤ A.length,
 sp77 A ii = sp77 A ii ∧ plainSh wSh = true ∨ ∀ (i : Nat), i < A.length → rowOb wSh 0 (sp77 A ii i) (sp77 A ii i),
 decide (Int.ofNat ii < Int.ofNat A.length) = false]) := by kernel_rfl
theorem mpli_1 (A : List (K3 × Int)) (m io : Nat) : castSt ((mplU A m io).hp) [] (mplU A m io) (mplT A m io 0) =
 some ([(0 : Nat) = 0,
 m = m,
 (none : Option Nat) = none,
 (0 : Nat) = 0,
 (0 : Nat) = 0,
 Int.ofNat io = Int.ofNat io,
 (0 : Nat) = 0,
 A.length = A.length,
 some A.length = some A.length,
 (0 : Int) = 0,
 false = false,
 A.length ≤ A.length,
 sp77 A 0 = wdF (wdAt A) ∧ plainSh wSh = true ∨ ∀ (i : Nat), i < A.length → rowOb wSh 0 (wdF (wdAt A) i) (sp77 A 0 i)]) := by kernel_rfl
theorem mpl_lp (A : List (K3 × Int)) (m io : Nat) (hA : A.length ≤ 1000000) : mplLP A m io := by
  refine loop_rule EM0_ok (I := Nat) (fun i => mplT A m io i) (fun i => A.length - i) (fun i => i ≤ A.length) ?_ (fun ii hi => ?_)
  ·
    refine ⟨0, [], _, Nat.zero_le _, mpli_1 .., (ob_cons rfl (ob_cons rfl (ob_cons rfl (ob_cons rfl (ob_cons rfl (ob_cons rfl (ob_cons rfl (ob_cons rfl (ob_cons rfl (ob_cons rfl (ob_cons rfl (ob_cons (Nat.le_refl _) (ob_cons ?_ ob_nil)))))))))))))⟩
    ·
      first | exact .inl ⟨rfl, rfl⟩ | exact .inl ⟨rfl, rfl⟩ | (refine .inl ⟨?_, rfl⟩; funext i j; simp [sp77]) | rfl
  have hi : ii ≤ A.length := hi
  cases h1 : (decide (Int.ofNat ii < Int.ofNat A.length)) with
  | true =>
    have g1 := of_decide_eq_true h1
    try simp only [Int.ofNat_eq_natCast, ge_iff_le, gt_iff_lt, Int.not_lt, Int.not_le] at g1
    refine round_norm (s0 := mplU A m io) (T := fun i => mplT A m io i) (i := ii) (ii + 1) (mplr_1 ..) (ob_cons rfl (ob_cons rfl (ob_cons rfl (ob_cons rfl (ob_cons rfl (ob_cons rfl (ob_cons rfl (ob_cons rfl (ob_cons rfl (ob_cons ?_ (ob_cons rfl (ob_cons (Nat.le_refl _) (ob_cons ?_ (ob_cons ?_ (ob_cons ?_ (ob_cons h1 ob_nil)))))))))))))))) (by show ii + 1 ≤ A.length; omega) (by show A.length - (ii + 1) < A.length - ii; omega)
    ·
      first | exact wrap_nat64 _ (by simp; omega) (by simp; omega) | exact .inr (sp77_rows A ii _) | omega | (simp; omega)
    ·
      first | exact .inl ⟨rfl, rfl⟩ | exact .inr (sp77_rows A ii _) | omega | (simp; omega)
    ·
      first | (apply Nat.ble_eq_true_of_le; omega) | (simp [Nat.blt_eq]; omega) | exact .inr (sp77_rows A ii _) | omega | (simp; omega)
    ·
      first | (apply Nat.ble_eq_true_of_le; omega) | (simp [Nat.blt_eq]; omega) | exact .inr (sp77_rows A ii _) | omega | (simp; omega)
  | false =>
    have g1 := of_decide_eq_false h1
    try simp only [Int.ofNat_eq_natCast, ge_iff_le, gt_iff_lt, Int.not_lt, Int.not_le] at g1
    obtain rfl : A.length = ii := by omega
    refine round_exit (s0 := mplU A m io) (T := fun i => mplT A m io i) (i := A.length) (mplr_2 ..) (by simp) (ob_cons rfl (ob_cons rfl (ob_cons rfl (ob_cons rfl (ob_cons rfl (ob_cons rfl (ob_cons rfl (ob_cons rfl (ob_cons rfl (ob_cons rfl (ob_cons (Nat.le_refl _) (ob_cons (.inl ⟨rfl, rfl⟩) (ob_cons h1 ob_nil)))))))))))))
end Go.Proofs.Ytephpkfajobhmaa
