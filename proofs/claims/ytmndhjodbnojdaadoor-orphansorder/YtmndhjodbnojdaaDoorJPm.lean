/-
  may: its loop.
-/
import Derived.Test.YtmndhjodbnojdaaDoorJPcDef
set_option linter.unusedSimpArgs false
set_option linter.unusedVariables false
namespace Go.Proofs.YtmndhjodbnojdaaDoor
open Go.Ev
theorem mylr_1 (n l : Nat) (r : Bool) (f : Nat → Nat → AV) (c : Option Nat) (ii : Nat) : roundB EIm 2000 mylL ((mylU n l r f c).hp) [(2, Src.nm 5)] (mylT n l r f c ii) [Hint.b true, Hint.b false, Hint.b false, Hint.b false, Hint.b false] (mylT n l r f c (ii + 1)) =
 some (Ex.norm, [(0 : Nat) = 0,
 n = n,
 c = c,
 (0 : Nat) = 0,
 ii + 1 = ii + 1,
 (none : Option Nat) = none,
 (0 : Nat) = 0,
 n = n,
 c = c,
 Int.ofNat n = Int.ofNat n,
 IntKind.i64.wrap (Int.ofNat ii + 1) = Int.ofNat (ii + 1),
 r = r,
 l ≤ l,
 f = f ∧ plainSh [CK.int IntKind.i64, CK.int IntKind.u32, CK.bool, CK.int IntKind.u64, CK.int IntKind.u64, CK.int IntKind.u64] = true ∨ ∀ (i : Nat), i < l → rowOb [CK.int IntKind.i64, CK.int IntKind.u32, CK.bool, CK.int IntKind.u64, CK.int IntKind.u64, CK.int IntKind.u64] 0 (f i) (f i),
 false = false,
 ii + 1 ≤ ii + 1,
 (nF (yK f) = fun i j => if i < ii then nF (yK f) (0 + i) j else rowsOf 1 [AV.sym IntKind.i64 (avInt (f (0 + ii) 0))] (i - ii) j) ∧ plainSh [CK.int IntKind.i64] = true ∨ ∀ (i : Nat), i < ii + 1 → rowOb [CK.int IntKind.i64] 0 (fun j => if i < ii then nF (yK f) (0 + i) j else rowsOf 1 [AV.sym IntKind.i64 (avInt (f (0 + ii) 0))] (i - ii) j) (nF (yK f) i),
 ((ii + 1) * 8).ble 70368744177664 = true,
 (0 + ii).ble ii = true,
 false = false,
 ii ≤ ii,
 ii ≤ 1000000,
 ∀ (i : Nat), i < ii → (avInt (f (0 + ii) 0) == yK f (0 + i)) = false,
 avBool (f (0 + ii) 2) = false,
 decide (avInt (f (0 + ii) 0) ≥ 256) = false,
 decide (avInt (f (0 + ii) 0) < 0) = false,
 (0 + ii).blt l = true,
 (ii.blt n && decide (0 ≤ Int.ofNat ii)) = true,
 decide (Int.ofNat ii < Int.ofNat n) = true]) := by kernel_rfl
theorem mylr_2 (n l : Nat) (r : Bool) (f : Nat → Nat → AV) (c : Option Nat) (ii : Nat) : roundB EIm 2000 mylL ((mylU n l r f c).hp) [(2, Src.nm 2)] (mylT n l r f c ii) [Hint.b false] (mylX n l r f c ii) =
 some (Ex.exit 0, [(0 : Nat) = 0,
 n = n,
 c = c,
 (0 : Nat) = 0,
 ii = ii,
 (none : Option Nat) = none,
 (0 : Nat) = 0,
 n = n,
 c = c,
 Int.ofNat n = Int.ofNat n,
 r = r,
 l ≤ l,
 f = f ∧ plainSh [CK.int IntKind.i64, CK.int IntKind.u32, CK.bool, CK.int IntKind.u64, CK.int IntKind.u64, CK.int IntKind.u64] = true ∨ ∀ (i : Nat), i < l → rowOb [CK.int IntKind.i64, CK.int IntKind.u32, CK.bool, CK.int IntKind.u64, CK.int IntKind.u64, CK.int IntKind.u64] 0 (f i) (f i),
 false = false,
 ii ≤ ii,
 nF (yK f) = nF (yK f) ∧ plainSh [CK.int IntKind.i64] = true ∨ ∀ (i : Nat), i < ii → rowOb [CK.int IntKind.i64] 0 (nF (yK f) i) (nF (yK f) i),
 decide (Int.ofNat ii < Int.ofNat n) = false]) := by kernel_rfl
theorem myli_1 (n l : Nat) (r : Bool) (f : Nat → Nat → AV) (c : Option Nat) : castSt ((mylU n l r f c).hp) [(2, Src.nil 1)] (mylU n l r f c) (mylT n l r f c 0) =
 some ([(0 : Nat) = 0,
 n = n,
 c = c,
 (0 : Nat) = 0,
 (0 : Nat) = 0,
 (none : Option Nat) = none,
 (0 : Nat) = 0,
 n = n,
 c = c,
 Int.ofNat n = Int.ofNat n,
 (0 : Int) = 0,
 r = r,
 l ≤ l,
 f = f ∧ plainSh [CK.int IntKind.i64, CK.int IntKind.u32, CK.bool, CK.int IntKind.u64, CK.int IntKind.u64, CK.int IntKind.u64] = true ∨ ∀ (i : Nat), i < l → rowOb [CK.int IntKind.i64, CK.int IntKind.u32, CK.bool, CK.int IntKind.u64, CK.int IntKind.u64, CK.int IntKind.u64] 0 (f i) (f i),
 (0 : Nat) = 0]) := by kernel_rfl
theorem myl_lp (n l : Nat) (r : Bool) (f : Nat → Nat → AV) (c : Option Nat) (hl : n ≤ l) (hv : GvMay n f) : mylLP n l r f c := by
  refine loop_rule EIm_ok (I := Nat) (fun i => mylT n l r f c i) (fun i => n - i) (fun i => i ≤ n) ?_ (fun ii hi => ?_)
  ·
    refine ⟨0, [(2, Src.nil 1)], _, Nat.zero_le _, myli_1 .., (ob_cons rfl (ob_cons rfl (ob_cons rfl (ob_cons rfl (ob_cons rfl (ob_cons rfl (ob_cons rfl (ob_cons rfl (ob_cons rfl (ob_cons rfl (ob_cons rfl (ob_cons rfl (ob_cons (Nat.le_refl _) (ob_cons (.inl ⟨rfl, rfl⟩) (ob_cons rfl ob_nil)))))))))))))))⟩
  have hi : ii ≤ n := hi
  have hn1 := hv.n1
  cases h1 : (decide (Int.ofNat ii < Int.ofNat n)) with
  | true =>
    have g1 := of_decide_eq_true h1
    try simp only [Int.ofNat_eq_natCast, ge_iff_le, gt_iff_lt, Int.not_lt, Int.not_le] at g1
    refine round_norm (s0 := mylU n l r f c) (T := fun i => mylT n l r f c i) (i := ii) (ii + 1) (mylr_1 ..) (ob_cons rfl (ob_cons rfl (ob_cons rfl (ob_cons rfl (ob_cons rfl (ob_cons rfl (ob_cons rfl (ob_cons rfl (ob_cons rfl (ob_cons rfl (ob_cons ?_ (ob_cons rfl (ob_cons (Nat.le_refl _) (ob_cons (.inl ⟨rfl, rfl⟩) (ob_cons rfl (ob_cons (Nat.le_refl _) (ob_cons ?_ (ob_cons ?_ (ob_cons ?_ (ob_cons rfl (ob_cons (Nat.le_refl _) (ob_cons ?_ (ob_cons ?_ (ob_cons ?_ (ob_cons ?_ (ob_cons ?_ (ob_cons ?_ (ob_cons ?_ (ob_cons h1 ob_nil))))))))))))))))))))))))))))) (by show ii + 1 ≤ n; omega) (by show n - (ii + 1) < n - ii; omega)
    ·
      first | with_reducible assumption | exact rfl | exact decide_eq_false (by have := (hv.r ii (by omega)).1; exact Int.not_lt.2 this) | exact decide_eq_false (by have := (hv.r ii (by omega)).2.1; exact Int.not_le.2 this) | exact (hv.r ii (by omega)).2.2 | exact may_nd hv (by omega) | exact .inl ⟨rfl, rfl⟩ | exact .inr yK_rows | (apply Nat.ble_eq_true_of_le; omega) | (simp [Nat.blt_eq]; omega) | (simp; done) | (simp; omega) | omega | exact wrap_nat64 _ (by simp; omega) (by simp; omega)
    ·
      first | with_reducible assumption | exact rfl | exact decide_eq_false (by have := (hv.r ii (by omega)).1; exact Int.not_lt.2 this) | exact decide_eq_false (by have := (hv.r ii (by omega)).2.1; exact Int.not_le.2 this) | exact (hv.r ii (by omega)).2.2 | exact may_nd hv (by omega) | exact .inl ⟨rfl, rfl⟩ | exact .inr yK_rows | (apply Nat.ble_eq_true_of_le; omega) | (simp [Nat.blt_eq]; omega) | (simp; done) | (simp; omega) | omega | exact .inl ⟨rfl, rfl⟩
    ·
      first | with_reducible assumption | exact rfl | exact decide_eq_false (by have := (hv.r ii (by omega)).1; exact Int.not_lt.2 this) | exact decide_eq_false (by have := (hv.r ii (by omega)).2.1; exact Int.not_le.2 this) | exact (hv.r ii (by omega)).2.2 | exact may_nd hv (by omega) | exact .inl ⟨rfl, rfl⟩ | exact .inr yK_rows | (apply Nat.ble_eq_true_of_le; omega) | (simp [Nat.blt_eq]; omega) | (simp; done) | (simp; omega) | omega | (apply Nat.ble_eq_true_of_le; omega) | (simp [Nat.blt_eq]; omega)
    ·
      first | with_reducible assumption | exact rfl | exact decide_eq_false (by have := (hv.r ii (by omega)).1; exact Int.not_lt.2 this) | exact decide_eq_false (by have := (hv.r ii (by omega)).2.1; exact Int.not_le.2 this) | exact (hv.r ii (by omega)).2.2 | exact may_nd hv (by omega) | exact .inl ⟨rfl, rfl⟩ | exact .inr yK_rows | (apply Nat.ble_eq_true_of_le; omega) | (simp [Nat.blt_eq]; omega) | (simp; done) | (simp; omega) | omega | (apply Nat.ble_eq_true_of_le; omega) | (simp [Nat.blt_eq]; omega)
    ·
      first | with_reducible assumption | exact rfl | exact decide_eq_false (by have := (hv.r ii (by omega)).1; exact Int.not_lt.2 this) | exact decide_eq_false (by have := (hv.r ii (by omega)).2.1; exact Int.not_le.2 this) | exact (hv.r ii (by omega)).2.2 | exact may_nd hv (by omega) | exact .inl ⟨rfl, rfl⟩ | exact .inr yK_rows | (apply Nat.ble_eq_true_of_le; omega) | (simp [Nat.blt_eq]; omega) | (simp; done) | (simp; omega) | omega | exact Nat.le_refl _ | omega
    ·
      first | with_reducible assumption | exact rfl | exact decide_eq_false (by have := (hv.r ii (by omega)).1; exact Int.not_lt.2 this) | exact decide_eq_false (by have := (hv.r ii (by omega)).2.1; exact Int.not_le.2 this) | exact (hv.r ii (by omega)).2.2 | exact may_nd hv (by omega) | exact .inl ⟨rfl, rfl⟩ | exact .inr yK_rows | (apply Nat.ble_eq_true_of_le; omega) | (simp [Nat.blt_eq]; omega) | (simp; done) | (simp; omega) | omega | exact fun _ => rfl
    ·
      first | with_reducible assumption | exact rfl | exact decide_eq_false (by have := (hv.r ii (by omega)).1; exact Int.not_lt.2 this) | exact decide_eq_false (by have := (hv.r ii (by omega)).2.1; exact Int.not_le.2 this) | exact (hv.r ii (by omega)).2.2 | exact may_nd hv (by omega) | exact .inl ⟨rfl, rfl⟩ | exact .inr yK_rows | (apply Nat.ble_eq_true_of_le; omega) | (simp [Nat.blt_eq]; omega) | (simp; done) | (simp; omega) | omega | (apply Nat.ble_eq_true_of_le; omega) | (simp [Nat.blt_eq]; omega)
    ·
      first | with_reducible assumption | exact rfl | exact decide_eq_false (by have := (hv.r ii (by omega)).1; exact Int.not_lt.2 this) | exact decide_eq_false (by have := (hv.r ii (by omega)).2.1; exact Int.not_le.2 this) | exact (hv.r ii (by omega)).2.2 | exact may_nd hv (by omega) | exact .inl ⟨rfl, rfl⟩ | exact .inr yK_rows | (apply Nat.ble_eq_true_of_le; omega) | (simp [Nat.blt_eq]; omega) | (simp; done) | (simp; omega) | omega | (apply Nat.ble_eq_true_of_le; omega) | (simp [Nat.blt_eq]; omega)
    ·
      first | with_reducible assumption | exact rfl | exact decide_eq_false (by have := (hv.r ii (by omega)).1; exact Int.not_lt.2 this) | exact decide_eq_false (by have := (hv.r ii (by omega)).2.1; exact Int.not_le.2 this) | exact (hv.r ii (by omega)).2.2 | exact may_nd hv (by omega) | exact .inl ⟨rfl, rfl⟩ | exact .inr yK_rows | (apply Nat.ble_eq_true_of_le; omega) | (simp [Nat.blt_eq]; omega) | (simp; done) | (simp; omega) | omega | (apply Nat.ble_eq_true_of_le; omega) | (simp [Nat.blt_eq]; omega)
    ·
      first | with_reducible assumption | exact rfl | exact decide_eq_false (by have := (hv.r ii (by omega)).1; exact Int.not_lt.2 this) | exact decide_eq_false (by have := (hv.r ii (by omega)).2.1; exact Int.not_le.2 this) | exact (hv.r ii (by omega)).2.2 | exact may_nd hv (by omega) | exact .inl ⟨rfl, rfl⟩ | exact .inr yK_rows | (apply Nat.ble_eq_true_of_le; omega) | (simp [Nat.blt_eq]; omega) | (simp; done) | (simp; omega) | omega | (apply Nat.ble_eq_true_of_le; omega) | (simp [Nat.blt_eq]; omega)
    ·
      first | with_reducible assumption | exact rfl | exact decide_eq_false (by have := (hv.r ii (by omega)).1; exact Int.not_lt.2 this) | exact decide_eq_false (by have := (hv.r ii (by omega)).2.1; exact Int.not_le.2 this) | exact (hv.r ii (by omega)).2.2 | exact may_nd hv (by omega) | exact .inl ⟨rfl, rfl⟩ | exact .inr yK_rows | (apply Nat.ble_eq_true_of_le; omega) | (simp [Nat.blt_eq]; omega) | (simp; done) | (simp; omega) | omega | (apply Nat.ble_eq_true_of_le; omega) | (simp [Nat.blt_eq]; omega)
  | false =>
    have g1 := of_decide_eq_false h1
    try simp only [Int.ofNat_eq_natCast, ge_iff_le, gt_iff_lt, Int.not_lt, Int.not_le] at g1
    obtain rfl : n = ii := by omega
    refine round_exit (s0 := mylU n l r f c) (T := fun i => mylT n l r f c i) (i := n) (mylr_2 ..) (by simp) (ob_cons rfl (ob_cons rfl (ob_cons rfl (ob_cons rfl (ob_cons rfl (ob_cons rfl (ob_cons rfl (ob_cons rfl (ob_cons rfl (ob_cons rfl (ob_cons rfl (ob_cons (Nat.le_refl _) (ob_cons (.inl ⟨rfl, rfl⟩) (ob_cons rfl (ob_cons (Nat.le_refl _) (ob_cons (.inl ⟨rfl, rfl⟩) (ob_cons h1 ob_nil)))))))))))))))))
end Go.Proofs.YtmndhjodbnojdaaDoor
