/-
  SnapsMoved: the owners.
-/
import Derived.Test.YtmlfmmnnbdlabaaNSoDef
set_option linter.unusedSimpArgs false
set_option linter.unusedVariables false
namespace Go.Proofs.Ytmlfmmnnbdlabaa
open Go.Ev
theorem soa_1 (n : Nat) (g : Nat → Nat → AV) (z0 z1 w wt : Int) (ii : Nat) : roundB ESo 4000 soL ((soU n g z0 z1 w wt).hp) [] (soT n g z0 z1 w wt ii) [Hint.b true, Hint.b false] (soT n g z0 z1 w wt (ii + 1)) =
 some (Ex.norm, [(0 : Nat) = 0,
 (0 : Nat) = 0,
 (0 : Nat) = 0,
 n = n,
 (none : Option Nat) = none,
 w = w,
 IntKind.i64.wrap (Int.ofNat ii + 1) = Int.ofNat (ii + 1),
 (0 : Nat) = 0,
 n = n,
 (none : Option Nat) = none,
 z0 = z0,
 z1 = z1,
 w = w,
 wt = wt,
 true = true,
 n ≤ n,
 g = g ∧ plainSh tSh = true ∨ ∀ (i : Nat), i < n → rowOb tSh 0 (g i) (g i),
 (avInt (g (0 + ii) 0) == 0) = false,
 (0 + ii).blt n = true,
 (ii.blt n && decide (0 ≤ Int.ofNat ii)) = true,
 decide (Int.ofNat ii < Int.ofNat n) = true]) := by kernel_rfl
theorem sox_1 (n : Nat) (g : Nat → Nat → AV) (z0 z1 w wt : Int) (ii : Nat) : roundB ESo 4000 soL ((soU n g z0 z1 w wt).hp) [] (soT n g z0 z1 w wt ii) [Hint.b false] (soX n g z0 z1 w wt) =
 some (Ex.exit 0, [(0 : Nat) = 0,
 (0 : Nat) = 0,
 (0 : Nat) = 0,
 n = n,
 (none : Option Nat) = none,
 w = w,
 (0 : Nat) = 0,
 n = n,
 (none : Option Nat) = none,
 z0 = z0,
 z1 = z1,
 w = w,
 wt = wt,
 true = true,
 n ≤ n,
 g = g ∧ plainSh tSh = true ∨ ∀ (i : Nat), i < n → rowOb tSh 0 (g i) (g i),
 decide (Int.ofNat ii < Int.ofNat n) = false]) := by kernel_rfl
theorem sor_1 (n : Nat) (g : Nat → Nat → AV) (z0 z1 w wt : Int) (ii : Nat) : roundB ESo 4000 soL ((soU n g z0 z1 w wt).hp) [] (soT n g z0 z1 w wt ii) [Hint.b true, Hint.b true] (soR n g z0 z1 w wt) =
 some (Ex.ret, [(0 : Nat) = 0,
 n = n,
 (none : Option Nat) = none,
 z0 = z0,
 z1 = z1,
 w = w,
 wt = wt,
 true = true,
 n ≤ n,
 g = g ∧ plainSh tSh = true ∨ ∀ (i : Nat), i < n → rowOb tSh 0 (g i) (g i),
 (avInt (g (0 + ii) 0) == 0) = true,
 (0 + ii).blt n = true,
 (ii.blt n && decide (0 ≤ Int.ofNat ii)) = true,
 decide (Int.ofNat ii < Int.ofNat n) = true]) := by kernel_rfl
theorem soi_1 (n : Nat) (g : Nat → Nat → AV) (z0 z1 w wt : Int) : castSt ((soU n g z0 z1 w wt).hp) [] (soU n g z0 z1 w wt) (soT n g z0 z1 w wt 0) =
 some ([(0 : Nat) = 0,
 (0 : Nat) = 0,
 (0 : Nat) = 0,
 n = n,
 (none : Option Nat) = none,
 w = w,
 (0 : Int) = 0,
 (0 : Nat) = 0,
 n = n,
 (none : Option Nat) = none,
 z0 = z0,
 z1 = z1,
 w = w,
 wt = wt,
 true = true,
 n ≤ n,
 g = g ∧ plainSh tSh = true ∨ ∀ (i : Nat), i < n → rowOb tSh 0 (g i) (g i)]) := by kernel_rfl
theorem so_lp (n : Nat) (g : Nat → Nat → AV) (z0 z1 w wt : Int) (hn : n ≤ 16) (ho : ∀ i, i < n → avInt (g i 0) ≠ 0) : soLP n g z0 z1 w wt := by
  obtain ⟨K, hK⟩ : ∃ K, K = n := ⟨n, rfl⟩
  refine loop_rule ESo_ok (I := Nat) (fun i => soT n g z0 z1 w wt i) (fun i => K - i) (fun i => i ≤ K) ?_ (fun ii hi => ?_)
  ·
    refine ⟨0, [], _, Nat.zero_le _, soi_1 .., (ob_cons rfl (ob_cons rfl (ob_cons rfl (ob_cons rfl (ob_cons rfl (ob_cons rfl (ob_cons rfl (ob_cons rfl (ob_cons rfl (ob_cons rfl (ob_cons rfl (ob_cons rfl (ob_cons rfl (ob_cons rfl (ob_cons rfl (ob_cons (Nat.le_refl _) (ob_cons (.inl ⟨rfl, rfl⟩) ob_nil)))))))))))))))))⟩
  have hi : ii ≤ K := hi
  by_cases hin : ii < n
  ·
    have h1 : decide (Int.ofNat ii < Int.ofNat n) = true := decide_eq_true (by simp; omega)
    have h2 : IntKind.i64.wrap (Int.ofNat ii + 1) = Int.ofNat (ii + 1) := wrap_nat64 _ (by simp; omega) (by simp; omega)
    have h3 : (ii.blt n && decide (0 ≤ Int.ofNat ii)) = true := by rw [Bool.and_eq_true]; exact ⟨by simpa [Nat.blt_eq] using (show ii < n by omega), decide_eq_true (by simp)⟩
    have h4 : (0 + ii).blt n = true := by rw [Nat.zero_add]; simpa [Nat.blt_eq] using (show ii < n by omega)
    have h5 : (avInt (g (0 + ii) 0) == 0) = false := by rw [Nat.zero_add]; simpa using ho ii hin
    refine round_norm (s0 := soU n g z0 z1 w wt) (T := fun i => soT n g z0 z1 w wt i) (i := ii) (ii + 1) (soa_1 n g z0 z1 w wt ii) (ob_cons rfl (ob_cons rfl (ob_cons rfl (ob_cons rfl (ob_cons rfl (ob_cons rfl (ob_cons ?_ (ob_cons rfl (ob_cons rfl (ob_cons rfl (ob_cons rfl (ob_cons rfl (ob_cons rfl (ob_cons rfl (ob_cons rfl (ob_cons (Nat.le_refl _) (ob_cons (.inl ⟨rfl, rfl⟩) (ob_cons ?_ (ob_cons ?_ (ob_cons ?_ (ob_cons ?_ ob_nil))))))))))))))))))))) (by show ii + 1 ≤ K; omega) (by show K - (ii + 1) < K - ii; omega)
    ·
      first | with_reducible assumption | exact rfl | (simp; omega) | exact wrap_nat64 _ (by simp; omega) (by simp; omega)
    ·
      first | with_reducible assumption | exact rfl | (simp; omega) | (apply Nat.ble_eq_true_of_le; omega) | (simp [Nat.blt_eq]; omega)
    ·
      first | with_reducible assumption | exact rfl | (simp; omega) | (apply Nat.ble_eq_true_of_le; omega) | (simp [Nat.blt_eq]; omega)
    ·
      first | with_reducible assumption | exact rfl | (simp; omega) | (apply Nat.ble_eq_true_of_le; omega) | (simp [Nat.blt_eq]; omega)
    ·
      first | with_reducible assumption | exact rfl | (simp; omega) | (apply Nat.ble_eq_true_of_le; omega) | (simp [Nat.blt_eq]; omega)
  · obtain rfl : n = ii := by omega
    have h1 : decide (Int.ofNat n < Int.ofNat n) = false := decide_eq_false (by simp)
    refine round_exit (s0 := soU n g z0 z1 w wt) (T := fun i => soT n g z0 z1 w wt i) (i := n) (sox_1 n g z0 z1 w wt n) (by simp) (ob_cons rfl (ob_cons rfl (ob_cons rfl (ob_cons rfl (ob_cons rfl (ob_cons rfl (ob_cons rfl (ob_cons rfl (ob_cons rfl (ob_cons rfl (ob_cons rfl (ob_cons rfl (ob_cons rfl (ob_cons rfl (ob_cons (Nat.le_refl _) (ob_cons (.inl ⟨rfl, rfl⟩) (ob_cons ?_ ob_nil)))))))))))))))))
    ·
      first | with_reducible assumption | exact rfl | (simp; omega) | (apply Nat.ble_eq_true_of_le; omega) | (simp [Nat.blt_eq]; omega)
theorem so_lq (n : Nat) (g : Nat → Nat → AV) (z0 z1 w wt : Int) (hn : n ≤ 16) (K : Nat) (hKn : K < n) (hK : avInt (g K 0) = 0) (ho : ∀ i, i < K → avInt (g i 0) ≠ 0) : soLQ n g z0 z1 w wt := by
  refine loop_rule ESo_ok (I := Nat) (fun i => soT n g z0 z1 w wt i) (fun i => K - i) (fun i => i ≤ K) ?_ (fun ii hi => ?_)
  ·
    refine ⟨0, [], _, Nat.zero_le _, soi_1 .., (ob_cons rfl (ob_cons rfl (ob_cons rfl (ob_cons rfl (ob_cons rfl (ob_cons rfl (ob_cons rfl (ob_cons rfl (ob_cons rfl (ob_cons rfl (ob_cons rfl (ob_cons rfl (ob_cons rfl (ob_cons rfl (ob_cons rfl (ob_cons (Nat.le_refl _) (ob_cons (.inl ⟨rfl, rfl⟩) ob_nil)))))))))))))))))⟩
  have hi : ii ≤ K := hi
  by_cases hin : ii < K
  ·
    have h1 : decide (Int.ofNat ii < Int.ofNat n) = true := decide_eq_true (by simp; omega)
    have h2 : IntKind.i64.wrap (Int.ofNat ii + 1) = Int.ofNat (ii + 1) := wrap_nat64 _ (by simp; omega) (by simp; omega)
    have h3 : (ii.blt n && decide (0 ≤ Int.ofNat ii)) = true := by rw [Bool.and_eq_true]; exact ⟨by simpa [Nat.blt_eq] using (show ii < n by omega), decide_eq_true (by simp)⟩
    have h4 : (0 + ii).blt n = true := by rw [Nat.zero_add]; simpa [Nat.blt_eq] using (show ii < n by omega)
    have h5 : (avInt (g (0 + ii) 0) == 0) = false := by rw [Nat.zero_add]; simpa using ho ii hin
    refine round_norm (s0 := soU n g z0 z1 w wt) (T := fun i => soT n g z0 z1 w wt i) (i := ii) (ii + 1) (soa_1 n g z0 z1 w wt ii) (ob_cons rfl (ob_cons rfl (ob_cons rfl (ob_cons rfl (ob_cons rfl (ob_cons rfl (ob_cons ?_ (ob_cons rfl (ob_cons rfl (ob_cons rfl (ob_cons rfl (ob_cons rfl (ob_cons rfl (ob_cons rfl (ob_cons rfl (ob_cons (Nat.le_refl _) (ob_cons (.inl ⟨rfl, rfl⟩) (ob_cons ?_ (ob_cons ?_ (ob_cons ?_ (ob_cons ?_ ob_nil))))))))))))))))))))) (by show ii + 1 ≤ K; omega) (by show K - (ii + 1) < K - ii; omega)
    ·
      first | with_reducible assumption | exact rfl | (simp; omega) | exact wrap_nat64 _ (by simp; omega) (by simp; omega)
    ·
      first | with_reducible assumption | exact rfl | (simp; omega) | (apply Nat.ble_eq_true_of_le; omega) | (simp [Nat.blt_eq]; omega)
    ·
      first | with_reducible assumption | exact rfl | (simp; omega) | (apply Nat.ble_eq_true_of_le; omega) | (simp [Nat.blt_eq]; omega)
    ·
      first | with_reducible assumption | exact rfl | (simp; omega) | (apply Nat.ble_eq_true_of_le; omega) | (simp [Nat.blt_eq]; omega)
    ·
      first | with_reducible assumption | exact rfl | (simp; omega) | (apply Nat.ble_eq_true_of_le; omega) | (simp [Nat.blt_eq]; omega)
  · obtain rfl : K = ii := by omega
    have h1 : decide (Int.ofNat K < Int.ofNat n) = true := decide_eq_true (by simp; omega)
    have h2 : IntKind.i64.wrap (Int.ofNat K + 1) = Int.ofNat (K + 1) := wrap_nat64 _ (by simp; omega) (by simp; omega)
    have h3 : (K.blt n && decide (0 ≤ Int.ofNat K)) = true := by rw [Bool.and_eq_true]; exact ⟨by simpa [Nat.blt_eq] using (show K < n by omega), decide_eq_true (by simp)⟩
    have h4 : (0 + K).blt n = true := by rw [Nat.zero_add]; simpa [Nat.blt_eq] using (show K < n by omega)
    have h5 : (avInt (g (0 + K) 0) == 0) = true := by rw [Nat.zero_add]; simpa using hK
    refine round_exit (s0 := soU n g z0 z1 w wt) (T := fun i => soT n g z0 z1 w wt i) (i := K) (sor_1 n g z0 z1 w wt K) (by simp) (ob_cons rfl (ob_cons rfl (ob_cons rfl (ob_cons rfl (ob_cons rfl (ob_cons rfl (ob_cons rfl (ob_cons rfl (ob_cons (Nat.le_refl _) (ob_cons (.inl ⟨rfl, rfl⟩) (ob_cons ?_ (ob_cons ?_ (ob_cons ?_ (ob_cons ?_ ob_nil))))))))))))))
    ·
      first | with_reducible assumption | exact rfl | (simp; omega) | (apply Nat.ble_eq_true_of_le; omega) | (simp [Nat.blt_eq]; omega)
    ·
      first | with_reducible assumption | exact rfl | (simp; omega) | (apply Nat.ble_eq_true_of_le; omega) | (simp [Nat.blt_eq]; omega)
    ·
      first | with_reducible assumption | exact rfl | (simp; omega) | (apply Nat.ble_eq_true_of_le; omega) | (simp [Nat.blt_eq]; omega)
    ·
      first | with_reducible assumption | exact rfl | (simp; omega) | (apply Nat.ble_eq_true_of_le; omega) | (simp [Nat.blt_eq]; omega)

end Go.Proofs.Ytmlfmmnnbdlabaa
