/-
  OrphansOrder: the inner loop.
-/
import Derived.Test.YtmndhjodbnojdaaDoorJOqDef
set_option linter.unusedSimpArgs false
set_option linter.unusedVariables false
namespace Go.Proofs.YtmndhjodbnojdaaDoor
open Go.Ev
theorem ophr_1 (m : Nat) (f : Nat → Nat → AV) (p : Int) (nw : Nat) (nn : Nat) (j : Nat) (ii : Nat) : roundB EOo 2000 ophL ((ophU m f p nw nn j).hp) [] (ophT m f p nw nn j ii) [Hint.b true, Hint.node [(1, [Hint.b true])]] (ophT m f p nw nn j (ii + 1)) =
 some (Ex.norm, [(0 : Nat) = 0,
 m = m,
 (none : Option Nat) = none,
 p = p,
 (0 : Nat) = 0,
 (0 : Nat) = 0,
 (0 : Nat) = 0,
 nw = nw,
 (none : Option Nat) = none,
 (0 : Nat) = 0,
 nn = nn,
 (none : Option Nat) = none,
 Int.ofNat j = Int.ofNat j,
 true = hadF f j (ii + 1),
 IntKind.i64.wrap (Int.ofNat ii + 1) = Int.ofNat (ii + 1),
 true = true,
 m ≤ m,
 f = f ∧ plainSh [CK.int IntKind.u8] = true ∨ ∀ (i : Nat), i < m → rowOb [CK.int IntKind.u8] 0 (f i) (f i),
 hadF f j ii = true,
 decide (Int.ofNat ii < Int.ofNat j) = true]) := by kernel_rfl
theorem ophr_2 (m : Nat) (f : Nat → Nat → AV) (p : Int) (nw : Nat) (nn : Nat) (j : Nat) (ii : Nat) : roundB EOo 2000 ophL ((ophU m f p nw nn j).hp) [] (ophT m f p nw nn j ii) [Hint.b true, Hint.node [(1, [Hint.b false])]] (ophT m f p nw nn j (ii + 1)) =
 some (Ex.norm, [(0 : Nat) = 0,
 m = m,
 (none : Option Nat) = none,
 p = p,
 (0 : Nat) = 0,
 (0 : Nat) = 0,
 (0 : Nat) = 0,
 nw = nw,
 (none : Option Nat) = none,
 (0 : Nat) = 0,
 nn = nn,
 (none : Option Nat) = none,
 Int.ofNat j = Int.ofNat j,
 (avInt (f (0 + ii) 0) == avInt (f (0 + j) 0)) = hadF f j (ii + 1),
 IntKind.i64.wrap (Int.ofNat ii + 1) = Int.ofNat (ii + 1),
 true = true,
 m ≤ m,
 f = f ∧ plainSh [CK.int IntKind.u8] = true ∨ ∀ (i : Nat), i < m → rowOb [CK.int IntKind.u8] 0 (f i) (f i),
 (0 + j).blt m = true,
 (j.blt m && decide (0 ≤ Int.ofNat j)) = true,
 (0 + ii).blt m = true,
 (ii.blt m && decide (0 ≤ Int.ofNat ii)) = true,
 hadF f j ii = false,
 decide (Int.ofNat ii < Int.ofNat j) = true]) := by kernel_rfl
theorem ophr_3 (m : Nat) (f : Nat → Nat → AV) (p : Int) (nw : Nat) (nn : Nat) (j : Nat) (ii : Nat) : roundB EOo 2000 ophL ((ophU m f p nw nn j).hp) [] (ophT m f p nw nn j ii) [Hint.b false] (ophX m f p nw nn j ii) =
 some (Ex.exit 2, [(0 : Nat) = 0,
 m = m,
 (none : Option Nat) = none,
 p = p,
 (0 : Nat) = 0,
 (0 : Nat) = 0,
 (0 : Nat) = 0,
 nw = nw,
 (none : Option Nat) = none,
 (0 : Nat) = 0,
 nn = nn,
 (none : Option Nat) = none,
 Int.ofNat j = Int.ofNat j,
 hadF f j ii = hadF f j ii,
 true = true,
 m ≤ m,
 f = f ∧ plainSh [CK.int IntKind.u8] = true ∨ ∀ (i : Nat), i < m → rowOb [CK.int IntKind.u8] 0 (f i) (f i),
 decide (Int.ofNat ii < Int.ofNat j) = false]) := by kernel_rfl
theorem ophi_1 (m : Nat) (f : Nat → Nat → AV) (p : Int) (nw : Nat) (nn : Nat) (j : Nat) : castSt ((ophU m f p nw nn j).hp) [] (ophU m f p nw nn j) (ophT m f p nw nn j 0) =
 some ([(0 : Nat) = 0,
 m = m,
 (none : Option Nat) = none,
 p = p,
 (0 : Nat) = 0,
 (0 : Nat) = 0,
 (0 : Nat) = 0,
 nw = nw,
 (none : Option Nat) = none,
 (0 : Nat) = 0,
 nn = nn,
 (none : Option Nat) = none,
 Int.ofNat j = Int.ofNat j,
 false = hadF f j 0,
 (0 : Int) = 0,
 true = true,
 m ≤ m,
 f = f ∧ plainSh [CK.int IntKind.u8] = true ∨ ∀ (i : Nat), i < m → rowOb [CK.int IntKind.u8] 0 (f i) (f i)]) := by kernel_rfl
theorem oph_lp (m : Nat) (f : Nat → Nat → AV) (p : Int) (nw : Nat) (nn : Nat) (j : Nat) (hj : j < m) (hm : m ≤ 1000) : ophLP m f p nw nn j := by
  refine loop_rule EOo_ok (I := Nat) (fun i => ophT m f p nw nn j i) (fun i => j - i) (fun i => i ≤ j) ?_ (fun ii hi => ?_)
  ·
    refine ⟨0, [], _, Nat.zero_le _, ophi_1 .., (ob_cons rfl (ob_cons rfl (ob_cons rfl (ob_cons rfl (ob_cons rfl (ob_cons rfl (ob_cons rfl (ob_cons rfl (ob_cons rfl (ob_cons rfl (ob_cons rfl (ob_cons rfl (ob_cons rfl (ob_cons ?_ (ob_cons rfl (ob_cons rfl (ob_cons (Nat.le_refl _) (ob_cons (.inl ⟨rfl, rfl⟩) ob_nil))))))))))))))))))⟩
    ·
      first | exact rfl | exact .inl ⟨rfl, rfl⟩ | exact Nat.le_refl _ | rfl
  have hi : ii ≤ j := hi
  cases h1 : (decide (Int.ofNat ii < Int.ofNat j)) with
  | true =>
    have g1 := of_decide_eq_true h1
    try simp only [Int.ofNat_eq_natCast, ge_iff_le, gt_iff_lt, Int.not_lt, Int.not_le] at g1
    cases h2 : (hadF f j ii) with
    | true =>
      refine round_norm (s0 := ophU m f p nw nn j) (T := fun i => ophT m f p nw nn j i) (i := ii) (ii + 1) (ophr_1 ..) (ob_cons rfl (ob_cons rfl (ob_cons rfl (ob_cons rfl (ob_cons rfl (ob_cons rfl (ob_cons rfl (ob_cons rfl (ob_cons rfl (ob_cons rfl (ob_cons rfl (ob_cons rfl (ob_cons rfl (ob_cons ?_ (ob_cons ?_ (ob_cons rfl (ob_cons (Nat.le_refl _) (ob_cons (.inl ⟨rfl, rfl⟩) (ob_cons h2 (ob_cons h1 ob_nil)))))))))))))))))))) (by show ii + 1 ≤ j; omega) (by show j - (ii + 1) < j - ii; omega)
      ·
        first | with_reducible assumption | exact rfl | exact .inl ⟨rfl, rfl⟩ | (simp only [hadF]; (try rw [h1]); (try rw [h2]); done) | (simp only [hadF]; (try rw [h1]); (try rw [h2]); rfl) | (apply Nat.ble_eq_true_of_le; omega) | (simp [Nat.blt_eq]; omega) | (simp; done) | (simp; omega) | rfl
      ·
        first | with_reducible assumption | exact rfl | exact .inl ⟨rfl, rfl⟩ | (simp only [hadF]; (try rw [h1]); (try rw [h2]); done) | (simp only [hadF]; (try rw [h1]); (try rw [h2]); rfl) | (apply Nat.ble_eq_true_of_le; omega) | (simp [Nat.blt_eq]; omega) | (simp; done) | (simp; omega) | exact wrap_nat64 _ (by simp; omega) (by simp; omega)
    | false =>
      refine round_norm (s0 := ophU m f p nw nn j) (T := fun i => ophT m f p nw nn j i) (i := ii) (ii + 1) (ophr_2 ..) (ob_cons rfl (ob_cons rfl (ob_cons rfl (ob_cons rfl (ob_cons rfl (ob_cons rfl (ob_cons rfl (ob_cons rfl (ob_cons rfl (ob_cons rfl (ob_cons rfl (ob_cons rfl (ob_cons rfl (ob_cons ?_ (ob_cons ?_ (ob_cons rfl (ob_cons (Nat.le_refl _) (ob_cons (.inl ⟨rfl, rfl⟩) (ob_cons ?_ (ob_cons ?_ (ob_cons ?_ (ob_cons ?_ (ob_cons h2 (ob_cons h1 ob_nil)))))))))))))))))))))))) (by show ii + 1 ≤ j; omega) (by show j - (ii + 1) < j - ii; omega)
      ·
        first | with_reducible assumption | exact rfl | exact .inl ⟨rfl, rfl⟩ | (simp only [hadF]; (try rw [h1]); (try rw [h2]); done) | (simp only [hadF]; (try rw [h1]); (try rw [h2]); rfl) | (apply Nat.ble_eq_true_of_le; omega) | (simp [Nat.blt_eq]; omega) | (simp; done) | (simp; omega) | rfl
      ·
        first | with_reducible assumption | exact rfl | exact .inl ⟨rfl, rfl⟩ | (simp only [hadF]; (try rw [h1]); (try rw [h2]); done) | (simp only [hadF]; (try rw [h1]); (try rw [h2]); rfl) | (apply Nat.ble_eq_true_of_le; omega) | (simp [Nat.blt_eq]; omega) | (simp; done) | (simp; omega) | exact wrap_nat64 _ (by simp; omega) (by simp; omega)
      ·
        first | with_reducible assumption | exact rfl | exact .inl ⟨rfl, rfl⟩ | (simp only [hadF]; (try rw [h1]); (try rw [h2]); done) | (simp only [hadF]; (try rw [h1]); (try rw [h2]); rfl) | (apply Nat.ble_eq_true_of_le; omega) | (simp [Nat.blt_eq]; omega) | (simp; done) | (simp; omega) | (apply Nat.ble_eq_true_of_le; omega) | (simp [Nat.blt_eq]; omega)
      ·
        first | with_reducible assumption | exact rfl | exact .inl ⟨rfl, rfl⟩ | (simp only [hadF]; (try rw [h1]); (try rw [h2]); done) | (simp only [hadF]; (try rw [h1]); (try rw [h2]); rfl) | (apply Nat.ble_eq_true_of_le; omega) | (simp [Nat.blt_eq]; omega) | (simp; done) | (simp; omega) | (apply Nat.ble_eq_true_of_le; omega) | (simp [Nat.blt_eq]; omega)
      ·
        first | with_reducible assumption | exact rfl | exact .inl ⟨rfl, rfl⟩ | (simp only [hadF]; (try rw [h1]); (try rw [h2]); done) | (simp only [hadF]; (try rw [h1]); (try rw [h2]); rfl) | (apply Nat.ble_eq_true_of_le; omega) | (simp [Nat.blt_eq]; omega) | (simp; done) | (simp; omega) | (apply Nat.ble_eq_true_of_le; omega) | (simp [Nat.blt_eq]; omega)
      ·
        first | with_reducible assumption | exact rfl | exact .inl ⟨rfl, rfl⟩ | (simp only [hadF]; (try rw [h1]); (try rw [h2]); done) | (simp only [hadF]; (try rw [h1]); (try rw [h2]); rfl) | (apply Nat.ble_eq_true_of_le; omega) | (simp [Nat.blt_eq]; omega) | (simp; done) | (simp; omega) | (apply Nat.ble_eq_true_of_le; omega) | (simp [Nat.blt_eq]; omega)
  | false =>
    have g1 := of_decide_eq_false h1
    try simp only [Int.ofNat_eq_natCast, ge_iff_le, gt_iff_lt, Int.not_lt, Int.not_le] at g1
    obtain rfl : j = ii := by omega
    refine round_exit (s0 := ophU m f p nw nn j) (T := fun i => ophT m f p nw nn j i) (i := j) (ophr_3 ..) (by simp) (ob_cons rfl (ob_cons rfl (ob_cons rfl (ob_cons rfl (ob_cons rfl (ob_cons rfl (ob_cons rfl (ob_cons rfl (ob_cons rfl (ob_cons rfl (ob_cons rfl (ob_cons rfl (ob_cons rfl (ob_cons rfl (ob_cons rfl (ob_cons (Nat.le_refl _) (ob_cons (.inl ⟨rfl, rfl⟩) (ob_cons h1 ob_nil))))))))))))))))))
end Go.Proofs.YtmndhjodbnojdaaDoor
