/-
  FreesStack: the first loop, inside.
-/
import Derived.Test.YtmndhjodbnojdaaDoorJFkiDef
set_option linter.unusedSimpArgs false
set_option linter.unusedVariables false
namespace Go.Proofs.YtmndhjodbnojdaaDoor
open Go.Ev
theorem fkir_1 (m : Nat) (f : Nat → Nat → AV) (n : Nat) (E : Nat → Int) (j : Nat) (ii : Nat) : roundB EFk 2000 fkiL ((fkiU m f n E j).hp) [] (fkiT m f n E j ii) [Hint.b true, Hint.node [(1, [Hint.b true])]] (fkiT m f n E j (ii + 1)) =
 some (Ex.norm, [(0 : Nat) = 0,
 m = m,
 (none : Option Nat) = none,
 (0 : Nat) = 0,
 n = n,
 (none : Option Nat) = none,
 Int.ofNat j = Int.ofNat j,
 true = hadB E (IntKind.i64.wrap (avInt (f (0 + j) 0))) (ii + 1),
 IntKind.i64.wrap (Int.ofNat ii + 1) = Int.ofNat (ii + 1),
 true = true,
 (1 : Nat) ≤ (1 : Nat),
 tabF tab = tabF tab ∧ plainSh (List.map kindOfV tab) = true ∨ ∀ (i : Nat), i < 1 → rowOb (List.map kindOfV tab) 0 (tabF tab i) (tabF tab i),
 true = true,
 m ≤ m,
 f = f ∧ plainSh [CK.int IntKind.u8] = true ∨ ∀ (i : Nat), i < m → rowOb [CK.int IntKind.u8] 0 (f i) (f i),
 false = false,
 n ≤ n,
 LF E = LF E ∧ plainSh [CK.int IntKind.i64] = true ∨ ∀ (i : Nat), i < n → rowOb [CK.int IntKind.i64] 0 (LF E i) (LF E i),
 hadB E (IntKind.i64.wrap (avInt (f (0 + j) 0))) ii = true,
 decide (Int.ofNat ii < Int.ofNat n) = true]) := by kernel_rfl
theorem fkir_2 (m : Nat) (f : Nat → Nat → AV) (n : Nat) (E : Nat → Int) (j : Nat) (ii : Nat) : roundB EFk 2000 fkiL ((fkiU m f n E j).hp) [] (fkiT m f n E j ii) [Hint.b true, Hint.node [(1, [Hint.b false])]] (fkiT m f n E j (ii + 1)) =
 some (Ex.norm, [(0 : Nat) = 0,
 m = m,
 (none : Option Nat) = none,
 (0 : Nat) = 0,
 n = n,
 (none : Option Nat) = none,
 Int.ofNat j = Int.ofNat j,
 (E (0 + ii) == IntKind.i64.wrap (avInt (f (0 + j) 0))) = hadB E (IntKind.i64.wrap (avInt (f (0 + j) 0))) (ii + 1),
 IntKind.i64.wrap (Int.ofNat ii + 1) = Int.ofNat (ii + 1),
 true = true,
 (1 : Nat) ≤ (1 : Nat),
 tabF tab = tabF tab ∧ plainSh (List.map kindOfV tab) = true ∨ ∀ (i : Nat), i < 1 → rowOb (List.map kindOfV tab) 0 (tabF tab i) (tabF tab i),
 true = true,
 m ≤ m,
 f = f ∧ plainSh [CK.int IntKind.u8] = true ∨ ∀ (i : Nat), i < m → rowOb [CK.int IntKind.u8] 0 (f i) (f i),
 false = false,
 n ≤ n,
 LF E = LF E ∧ plainSh [CK.int IntKind.i64] = true ∨ ∀ (i : Nat), i < n → rowOb [CK.int IntKind.i64] 0 (LF E i) (LF E i),
 (0 + j).blt m = true,
 (j.blt m && decide (0 ≤ Int.ofNat j)) = true,
 (0 + ii).blt n = true,
 (ii.blt n && decide (0 ≤ Int.ofNat ii)) = true,
 hadB E (IntKind.i64.wrap (avInt (f (0 + j) 0))) ii = false,
 decide (Int.ofNat ii < Int.ofNat n) = true]) := by kernel_rfl
theorem fkir_3 (m : Nat) (f : Nat → Nat → AV) (n : Nat) (E : Nat → Int) (j : Nat) (ii : Nat) : roundB EFk 2000 fkiL ((fkiU m f n E j).hp) [] (fkiT m f n E j ii) [Hint.b false] (fkiX m f n E j ii) =
 some (Ex.exit 2, [(0 : Nat) = 0,
 m = m,
 (none : Option Nat) = none,
 (0 : Nat) = 0,
 n = n,
 (none : Option Nat) = none,
 Int.ofNat j = Int.ofNat j,
 hadB E (IntKind.i64.wrap (avInt (f (0 + j) 0))) ii = hadB E (IntKind.i64.wrap (avInt (f (0 + j) 0))) ii,
 true = true,
 (1 : Nat) ≤ (1 : Nat),
 tabF tab = tabF tab ∧ plainSh (List.map kindOfV tab) = true ∨ ∀ (i : Nat), i < 1 → rowOb (List.map kindOfV tab) 0 (tabF tab i) (tabF tab i),
 true = true,
 m ≤ m,
 f = f ∧ plainSh [CK.int IntKind.u8] = true ∨ ∀ (i : Nat), i < m → rowOb [CK.int IntKind.u8] 0 (f i) (f i),
 false = false,
 n ≤ n,
 LF E = LF E ∧ plainSh [CK.int IntKind.i64] = true ∨ ∀ (i : Nat), i < n → rowOb [CK.int IntKind.i64] 0 (LF E i) (LF E i),
 decide (Int.ofNat ii < Int.ofNat n) = false]) := by kernel_rfl
theorem fkii_1 (m : Nat) (f : Nat → Nat → AV) (n : Nat) (E : Nat → Int) (j : Nat) : castSt ((fkiU m f n E j).hp) [] (fkiU m f n E j) (fkiT m f n E j 0) =
 some ([(0 : Nat) = 0,
 m = m,
 (none : Option Nat) = none,
 (0 : Nat) = 0,
 n = n,
 (none : Option Nat) = none,
 Int.ofNat j = Int.ofNat j,
 false = hadB E (IntKind.i64.wrap (avInt (f (0 + j) 0))) 0,
 (0 : Int) = 0,
 true = true,
 (1 : Nat) ≤ (1 : Nat),
 tabF tab = tabF tab ∧ plainSh (List.map kindOfV tab) = true ∨ ∀ (i : Nat), i < 1 → rowOb (List.map kindOfV tab) 0 (tabF tab i) (tabF tab i),
 true = true,
 m ≤ m,
 f = f ∧ plainSh [CK.int IntKind.u8] = true ∨ ∀ (i : Nat), i < m → rowOb [CK.int IntKind.u8] 0 (f i) (f i),
 false = false,
 n ≤ n,
 LF E = LF E ∧ plainSh [CK.int IntKind.i64] = true ∨ ∀ (i : Nat), i < n → rowOb [CK.int IntKind.i64] 0 (LF E i) (LF E i)]) := by kernel_rfl
theorem fki_lp (m : Nat) (f : Nat → Nat → AV) (n : Nat) (E : Nat → Int) (j : Nat) (hi0 : j < m) (hL : n ≤ 1000000) : fkiLP m f n E j := by
  refine loop_rule EFk_ok (I := Nat) (fun i => fkiT m f n E j i) (fun i => n - i) (fun i => i ≤ n) ?_ (fun ii hi => ?_)
  ·
    refine ⟨0, [], _, Nat.zero_le _, fkii_1 .., (ob_cons rfl (ob_cons rfl (ob_cons rfl (ob_cons rfl (ob_cons rfl (ob_cons rfl (ob_cons rfl (ob_cons ?_ (ob_cons rfl (ob_cons rfl (ob_cons (Nat.le_refl _) (ob_cons (.inl ⟨rfl, rfl⟩) (ob_cons rfl (ob_cons (Nat.le_refl _) (ob_cons (.inl ⟨rfl, rfl⟩) (ob_cons rfl (ob_cons (Nat.le_refl _) (ob_cons (.inl ⟨rfl, rfl⟩) ob_nil))))))))))))))))))⟩
    ·
      first | exact rfl | exact .inl ⟨rfl, rfl⟩ | exact Nat.le_refl _ | rfl
  have hi : ii ≤ n := hi
  cases h1 : (decide (Int.ofNat ii < Int.ofNat n)) with
  | true =>
    have g1 := of_decide_eq_true h1
    try simp only [Int.ofNat_eq_natCast, ge_iff_le, gt_iff_lt, Int.not_lt, Int.not_le] at g1
    cases h2 : (hadB E (IntKind.i64.wrap (avInt (f (0 + j) 0))) ii) with
    | true =>
      refine round_norm (s0 := fkiU m f n E j) (T := fun i => fkiT m f n E j i) (i := ii) (ii + 1) (fkir_1 ..) (ob_cons rfl (ob_cons rfl (ob_cons rfl (ob_cons rfl (ob_cons rfl (ob_cons rfl (ob_cons rfl (ob_cons ?_ (ob_cons ?_ (ob_cons rfl (ob_cons (Nat.le_refl _) (ob_cons (.inl ⟨rfl, rfl⟩) (ob_cons rfl (ob_cons (Nat.le_refl _) (ob_cons (.inl ⟨rfl, rfl⟩) (ob_cons rfl (ob_cons (Nat.le_refl _) (ob_cons (.inl ⟨rfl, rfl⟩) (ob_cons h2 (ob_cons h1 ob_nil)))))))))))))))))))) (by show ii + 1 ≤ n; omega) (by show n - (ii + 1) < n - ii; omega)
      ·
        first | with_reducible assumption | exact rfl | exact .inl ⟨rfl, rfl⟩ | (simp only [hadB]; (try rw [h1]); (try rw [h2]); done) | (simp only [hadB]; (try rw [h1]); (try rw [h2]); rfl) | (apply Nat.ble_eq_true_of_le; omega) | (simp [Nat.blt_eq]; omega) | (simp; done) | (simp; omega) | rfl
      ·
        first | with_reducible assumption | exact rfl | exact .inl ⟨rfl, rfl⟩ | (simp only [hadB]; (try rw [h1]); (try rw [h2]); done) | (simp only [hadB]; (try rw [h1]); (try rw [h2]); rfl) | (apply Nat.ble_eq_true_of_le; omega) | (simp [Nat.blt_eq]; omega) | (simp; done) | (simp; omega) | exact wrap_nat64 _ (by simp; omega) (by simp; omega)
    | false =>
      refine round_norm (s0 := fkiU m f n E j) (T := fun i => fkiT m f n E j i) (i := ii) (ii + 1) (fkir_2 ..) (ob_cons rfl (ob_cons rfl (ob_cons rfl (ob_cons rfl (ob_cons rfl (ob_cons rfl (ob_cons rfl (ob_cons ?_ (ob_cons ?_ (ob_cons rfl (ob_cons (Nat.le_refl _) (ob_cons (.inl ⟨rfl, rfl⟩) (ob_cons rfl (ob_cons (Nat.le_refl _) (ob_cons (.inl ⟨rfl, rfl⟩) (ob_cons rfl (ob_cons (Nat.le_refl _) (ob_cons (.inl ⟨rfl, rfl⟩) (ob_cons ?_ (ob_cons ?_ (ob_cons ?_ (ob_cons ?_ (ob_cons h2 (ob_cons h1 ob_nil)))))))))))))))))))))))) (by show ii + 1 ≤ n; omega) (by show n - (ii + 1) < n - ii; omega)
      ·
        first | with_reducible assumption | exact rfl | exact .inl ⟨rfl, rfl⟩ | (simp only [hadB]; (try rw [h1]); (try rw [h2]); done) | (simp only [hadB]; (try rw [h1]); (try rw [h2]); rfl) | (apply Nat.ble_eq_true_of_le; omega) | (simp [Nat.blt_eq]; omega) | (simp; done) | (simp; omega) | rfl
      ·
        first | with_reducible assumption | exact rfl | exact .inl ⟨rfl, rfl⟩ | (simp only [hadB]; (try rw [h1]); (try rw [h2]); done) | (simp only [hadB]; (try rw [h1]); (try rw [h2]); rfl) | (apply Nat.ble_eq_true_of_le; omega) | (simp [Nat.blt_eq]; omega) | (simp; done) | (simp; omega) | exact wrap_nat64 _ (by simp; omega) (by simp; omega)
      ·
        first | with_reducible assumption | exact rfl | exact .inl ⟨rfl, rfl⟩ | (simp only [hadB]; (try rw [h1]); (try rw [h2]); done) | (simp only [hadB]; (try rw [h1]); (try rw [h2]); rfl) | (apply Nat.ble_eq_true_of_le; omega) | (simp [Nat.blt_eq]; omega) | (simp; done) | (simp; omega) | (apply Nat.ble_eq_true_of_le; omega) | (simp [Nat.blt_eq]; omega)
      ·
        first | with_reducible assumption | exact rfl | exact .inl ⟨rfl, rfl⟩ | (simp only [hadB]; (try rw [h1]); (try rw [h2]); done) | (simp only [hadB]; (try rw [h1]); (try rw [h2]); rfl) | (apply Nat.ble_eq_true_of_le; omega) | (simp [Nat.blt_eq]; omega) | (simp; done) | (simp; omega) | (apply Nat.ble_eq_true_of_le; omega) | (simp [Nat.blt_eq]; omega)
      ·
        first | with_reducible assumption | exact rfl | exact .inl ⟨rfl, rfl⟩ | (simp only [hadB]; (try rw [h1]); (try rw [h2]); done) | (simp only [hadB]; (try rw [h1]); (try rw [h2]); rfl) | (apply Nat.ble_eq_true_of_le; omega) | (simp [Nat.blt_eq]; omega) | (simp; done) | (simp; omega) | (apply Nat.ble_eq_true_of_le; omega) | (simp [Nat.blt_eq]; omega)
      ·
        first | with_reducible assumption | exact rfl | exact .inl ⟨rfl, rfl⟩ | (simp only [hadB]; (try rw [h1]); (try rw [h2]); done) | (simp only [hadB]; (try rw [h1]); (try rw [h2]); rfl) | (apply Nat.ble_eq_true_of_le; omega) | (simp [Nat.blt_eq]; omega) | (simp; done) | (simp; omega) | (apply Nat.ble_eq_true_of_le; omega) | (simp [Nat.blt_eq]; omega)
  | false =>
    have g1 := of_decide_eq_false h1
    try simp only [Int.ofNat_eq_natCast, ge_iff_le, gt_iff_lt, Int.not_lt, Int.not_le] at g1
    obtain rfl : n = ii := by omega
    refine round_exit (s0 := fkiU m f n E j) (T := fun i => fkiT m f n E j i) (i := n) (fkir_3 ..) (by simp) (ob_cons rfl (ob_cons rfl (ob_cons rfl (ob_cons rfl (ob_cons rfl (ob_cons rfl (ob_cons rfl (ob_cons rfl (ob_cons rfl (ob_cons (Nat.le_refl _) (ob_cons (.inl ⟨rfl, rfl⟩) (ob_cons rfl (ob_cons (Nat.le_refl _) (ob_cons (.inl ⟨rfl, rfl⟩) (ob_cons rfl (ob_cons (Nat.le_refl _) (ob_cons (.inl ⟨rfl, rfl⟩) (ob_cons h1 ob_nil))))))))))))))))))
end Go.Proofs.YtmndhjodbnojdaaDoor
