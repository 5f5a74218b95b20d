/-
  may: its loop, where one may not be.
-/
import Derived.Test.YtmndhjodbnojdaaDoorJVcDef
set_option linter.unusedSimpArgs false
set_option linter.unusedVariables false
namespace Go.Proofs.YtmndhjodbnojdaaDoor
open Go.Ev
theorem nyla_1 (n l : Nat) (r : Bool) (f : Nat → Nat → AV) (c : Option Nat) (kk : Nat) (ii : Nat) : roundB EIm 3000 nylL ((nylU n l r f c kk).hp) [(2, Src.nm 5)] (nylT n l r f c kk ii) [Hint.b true, Hint.b false, Hint.b false, Hint.b false, Hint.b false] (nylT n l r f c kk (ii + 1)) =
 some (Ex.norm, [(0 : Nat) = 0,
 n = n,
 c = c,
 (0 : Nat) = 0,
 ii + 1 = ii + 1,
 (none : Option Nat) = none,
 (0 : Nat) = 0,
 n = n,
 c = c,
 Int.ofNat n = Int.ofNat n,
 IntKind.i64.wrap (Int.ofNat ii + 1) = Int.ofNat (ii + 1),
 r = r,
 l ≤ l,
 f = f ∧ plainSh [CK.int IntKind.i64, CK.int IntKind.u32, CK.bool, CK.int IntKind.u64, CK.int IntKind.u64, CK.int IntKind.u64] = true ∨ ∀ (i : Nat), i < l → rowOb [CK.int IntKind.i64, CK.int IntKind.u32, CK.bool, CK.int IntKind.u64, CK.int IntKind.u64, CK.int IntKind.u64] 0 (f i) (f i),
 false = false,
 ii + 1 ≤ ii + 1,
 (nF (yK f) = fun i j => if i < ii then nF (yK f) (0 + i) j else rowsOf 1 [AV.sym IntKind.i64 (avInt (f (0 + ii) 0))] (i - ii) j) ∧ plainSh [CK.int IntKind.i64] = true ∨ ∀ (i : Nat), i < ii + 1 → rowOb [CK.int IntKind.i64] 0 (fun j => if i < ii then nF (yK f) (0 + i) j else rowsOf 1 [AV.sym IntKind.i64 (avInt (f (0 + ii) 0))] (i - ii) j) (nF (yK f) i),
 ((ii + 1) * 8).ble 70368744177664 = true,
 (0 + ii).ble ii = true,
 anyE ii (nF (yK f)) (avInt (f (0 + ii) 0)) = false,
 ii ≤ ii,
 ii ≤ 1000000,
 avBool (f (0 + ii) 2) = false,
 decide (avInt (f (0 + ii) 0) ≥ 256) = false,
 decide (avInt (f (0 + ii) 0) < 0) = false,
 (0 + ii).blt l = true,
 (ii.blt n && decide (0 ≤ Int.ofNat ii)) = true,
 decide (Int.ofNat ii < Int.ofNat n) = true]) := by kernel_rfl
theorem nylb_1 (n l : Nat) (r : Bool) (f : Nat → Nat → AV) (c : Option Nat) (kk : Nat) (ii : Nat) : roundB EIm 3000 nylL ((nylU n l r f c kk).hp) [] (nylT n l r f c kk ii) [Hint.b true, Hint.b true] (nylX n l r f c kk ii) =
 some (Ex.ret, [r = r,
 l ≤ l,
 f = f ∧ plainSh [CK.int IntKind.i64, CK.int IntKind.u32, CK.bool, CK.int IntKind.u64, CK.int IntKind.u64, CK.int IntKind.u64] = true ∨ ∀ (i : Nat), i < l → rowOb [CK.int IntKind.i64, CK.int IntKind.u32, CK.bool, CK.int IntKind.u64, CK.int IntKind.u64, CK.int IntKind.u64] 0 (f i) (f i),
 decide (avInt (f (0 + ii) 0) < 0) = true,
 (0 + ii).blt l = true,
 (ii.blt n && decide (0 ≤ Int.ofNat ii)) = true,
 decide (Int.ofNat ii < Int.ofNat n) = true]) := by kernel_rfl
theorem nylc_1 (n l : Nat) (r : Bool) (f : Nat → Nat → AV) (c : Option Nat) (kk : Nat) (ii : Nat) : roundB EIm 3000 nylL ((nylU n l r f c kk).hp) [] (nylT n l r f c kk ii) [Hint.b true, Hint.b false, Hint.b true] (nylX n l r f c kk ii) =
 some (Ex.ret, [r = r,
 l ≤ l,
 f = f ∧ plainSh [CK.int IntKind.i64, CK.int IntKind.u32, CK.bool, CK.int IntKind.u64, CK.int IntKind.u64, CK.int IntKind.u64] = true ∨ ∀ (i : Nat), i < l → rowOb [CK.int IntKind.i64, CK.int IntKind.u32, CK.bool, CK.int IntKind.u64, CK.int IntKind.u64, CK.int IntKind.u64] 0 (f i) (f i),
 decide (avInt (f (0 + ii) 0) ≥ 256) = true,
 decide (avInt (f (0 + ii) 0) < 0) = false,
 (0 + ii).blt l = true,
 (ii.blt n && decide (0 ≤ Int.ofNat ii)) = true,
 decide (Int.ofNat ii < Int.ofNat n) = true]) := by kernel_rfl
theorem nyld_1 (n l : Nat) (r : Bool) (f : Nat → Nat → AV) (c : Option Nat) (kk : Nat) (ii : Nat) : roundB EIm 3000 nylL ((nylU n l r f c kk).hp) [] (nylT n l r f c kk ii) [Hint.b true, Hint.b false, Hint.b false, Hint.b true] (nylX n l r f c kk ii) =
 some (Ex.ret, [r = r,
 l ≤ l,
 f = f ∧ plainSh [CK.int IntKind.i64, CK.int IntKind.u32, CK.bool, CK.int IntKind.u64, CK.int IntKind.u64, CK.int IntKind.u64] = true ∨ ∀ (i : Nat), i < l → rowOb [CK.int IntKind.i64, CK.int IntKind.u32, CK.bool, CK.int IntKind.u64, CK.int IntKind.u64, CK.int IntKind.u64] 0 (f i) (f i),
 avBool (f (0 + ii) 2) = true,
 decide (avInt (f (0 + ii) 0) ≥ 256) = false,
 decide (avInt (f (0 + ii) 0) < 0) = false,
 (0 + ii).blt l = true,
 (ii.blt n && decide (0 ≤ Int.ofNat ii)) = true,
 decide (Int.ofNat ii < Int.ofNat n) = true]) := by kernel_rfl
theorem nyle_1 (n l : Nat) (r : Bool) (f : Nat → Nat → AV) (c : Option Nat) (kk : Nat) (ii : Nat) : roundB EIm 3000 nylL ((nylU n l r f c kk).hp) [] (nylT n l r f c kk ii) [Hint.b true, Hint.b false, Hint.b false, Hint.b false, Hint.b true] (nylX n l r f c kk ii) =
 some (Ex.ret, [r = r,
 l ≤ l,
 f = f ∧ plainSh [CK.int IntKind.i64, CK.int IntKind.u32, CK.bool, CK.int IntKind.u64, CK.int IntKind.u64, CK.int IntKind.u64] = true ∨ ∀ (i : Nat), i < l → rowOb [CK.int IntKind.i64, CK.int IntKind.u32, CK.bool, CK.int IntKind.u64, CK.int IntKind.u64, CK.int IntKind.u64] 0 (f i) (f i),
 anyE ii (nF (yK f)) (avInt (f (0 + ii) 0)) = true,
 ii ≤ ii,
 ii ≤ 1000000,
 avBool (f (0 + ii) 2) = false,
 decide (avInt (f (0 + ii) 0) ≥ 256) = false,
 decide (avInt (f (0 + ii) 0) < 0) = false,
 (0 + ii).blt l = true,
 (ii.blt n && decide (0 ≤ Int.ofNat ii)) = true,
 decide (Int.ofNat ii < Int.ofNat n) = true]) := by kernel_rfl
theorem nyli_1 (n l : Nat) (r : Bool) (f : Nat → Nat → AV) (c : Option Nat) (kk : Nat) : castSt ((nylU n l r f c kk).hp) [(2, Src.nil 1)] (nylU n l r f c kk) (nylT n l r f c kk 0) =
 some ([(0 : Nat) = 0,
 n = n,
 c = c,
 (0 : Nat) = 0,
 (0 : Nat) = 0,
 (none : Option Nat) = none,
 (0 : Nat) = 0,
 n = n,
 c = c,
 Int.ofNat n = Int.ofNat n,
 (0 : Int) = 0,
 r = r,
 l ≤ l,
 f = f ∧ plainSh [CK.int IntKind.i64, CK.int IntKind.u32, CK.bool, CK.int IntKind.u64, CK.int IntKind.u64, CK.int IntKind.u64] = true ∨ ∀ (i : Nat), i < l → rowOb [CK.int IntKind.i64, CK.int IntKind.u32, CK.bool, CK.int IntKind.u64, CK.int IntKind.u64, CK.int IntKind.u64] 0 (f i) (f i),
 (0 : Nat) = 0]) := by kernel_rfl
theorem nyl_lp (n l : Nat) (r : Bool) (f : Nat → Nat → AV) (c : Option Nat) (kk : Nat) (hl : n ≤ l) (hn : n ≤ 1000000) (hk : kk < n) (hg : ∀ i, i < kk → Gd f i) (hb : ¬ Gd f kk) : nylLP n l r f c kk := by
  refine loop_rule EIm_ok (I := Nat) (fun i => nylT n l r f c kk i) (fun i => kk - i) (fun i => i ≤ kk) ?_ (fun ii hi => ?_)
  ·
    refine ⟨0, [(2, Src.nil 1)], _, Nat.zero_le _, nyli_1 .., (ob_cons rfl (ob_cons rfl (ob_cons rfl (ob_cons rfl (ob_cons rfl (ob_cons rfl (ob_cons rfl (ob_cons rfl (ob_cons rfl (ob_cons rfl (ob_cons rfl (ob_cons rfl (ob_cons (Nat.le_refl _) (ob_cons (.inl ⟨rfl, rfl⟩) (ob_cons rfl ob_nil)))))))))))))))⟩
  have hi : ii ≤ kk := hi
  by_cases hx : ii < kk
  · have g := hg ii hx
    have hq1 : decide (avInt (f (0 + ii) 0) < 0) = false := decide_eq_false (by have := g.a; unfold yK at this; omega)
    have hq2 : decide (avInt (f (0 + ii) 0) ≥ 256) = false := decide_eq_false (by have := g.b; unfold yK at this; omega)
    have hq3 : avBool (f (0 + ii) 2) = false := g.c
    have hq4 : anyE ii (nF (yK f)) (avInt (f (0 + ii) 0)) = false := g.d
    refine round_norm (s0 := nylU n l r f c kk) (T := fun i => nylT n l r f c kk i) (i := ii) (ii + 1) (nyla_1 ..) (ob_cons rfl (ob_cons rfl (ob_cons rfl (ob_cons rfl (ob_cons rfl (ob_cons rfl (ob_cons rfl (ob_cons rfl (ob_cons rfl (ob_cons rfl (ob_cons ?_ (ob_cons rfl (ob_cons (Nat.le_refl _) (ob_cons (.inl ⟨rfl, rfl⟩) (ob_cons rfl (ob_cons (Nat.le_refl _) (ob_cons ?_ (ob_cons ?_ (ob_cons ?_ (ob_cons ?_ (ob_cons (Nat.le_refl _) (ob_cons ?_ (ob_cons ?_ (ob_cons ?_ (ob_cons ?_ (ob_cons ?_ (ob_cons ?_ (ob_cons ?_ ob_nil)))))))))))))))))))))))))))) (by show ii + 1 ≤ kk; omega) (by show kk - (ii + 1) < kk - ii; omega)
    · exact wrap_nat64 _ (by simp; omega) (by simp; omega)
    · exact .inr yK_rows
    · (apply Nat.ble_eq_true_of_le; omega)
    · (apply Nat.ble_eq_true_of_le; omega)
    · with_reducible assumption
    · omega
    · with_reducible assumption
    · with_reducible assumption
    · with_reducible assumption
    · (apply Nat.ble_eq_true_of_le; omega)
    · (simp [Nat.blt_eq]; omega)
    · (simp [Nat.blt_eq]; omega)
  · obtain rfl : kk = ii := by omega
    by_cases c1 : avInt (f (0 + kk) 0) < 0
    · have hq1 : decide (avInt (f (0 + kk) 0) < 0) = true := decide_eq_true c1
      refine round_exit (s0 := nylU n l r f c kk) (T := fun i => nylT n l r f c kk i) (i := kk) (nylb_1 ..) (by simp) (ob_cons rfl (ob_cons (Nat.le_refl _) (ob_cons (.inl ⟨rfl, rfl⟩) (ob_cons ?_ (ob_cons ?_ (ob_cons ?_ (ob_cons ?_ ob_nil)))))))
      · with_reducible assumption
      · (apply Nat.ble_eq_true_of_le; omega)
      · (simp [Nat.blt_eq]; omega)
      · (simp [Nat.blt_eq]; omega)
    have hq1 : decide (avInt (f (0 + kk) 0) < 0) = false := decide_eq_false c1
    by_cases c2 : avInt (f (0 + kk) 0) ≥ 256
    · have hq2 : decide (avInt (f (0 + kk) 0) ≥ 256) = true := decide_eq_true c2
      refine round_exit (s0 := nylU n l r f c kk) (T := fun i => nylT n l r f c kk i) (i := kk) (nylc_1 ..) (by simp) (ob_cons rfl (ob_cons (Nat.le_refl _) (ob_cons (.inl ⟨rfl, rfl⟩) (ob_cons ?_ (ob_cons ?_ (ob_cons ?_ (ob_cons ?_ (ob_cons ?_ ob_nil))))))))
      · with_reducible assumption
      · with_reducible assumption
      · (apply Nat.ble_eq_true_of_le; omega)
      · (simp [Nat.blt_eq]; omega)
      · (simp [Nat.blt_eq]; omega)
    have hq2 : decide (avInt (f (0 + kk) 0) ≥ 256) = false := decide_eq_false c2
    cases hq3 : avBool (f (0 + kk) 2) with
    | true =>
      refine round_exit (s0 := nylU n l r f c kk) (T := fun i => nylT n l r f c kk i) (i := kk) (nyld_1 ..) (by simp) (ob_cons rfl (ob_cons (Nat.le_refl _) (ob_cons (.inl ⟨rfl, rfl⟩) (ob_cons ?_ (ob_cons ?_ (ob_cons ?_ (ob_cons ?_ (ob_cons ?_ (ob_cons ?_ ob_nil)))))))))
      · with_reducible assumption
      · with_reducible assumption
      · with_reducible assumption
      · (apply Nat.ble_eq_true_of_le; omega)
      · (simp [Nat.blt_eq]; omega)
      · (simp [Nat.blt_eq]; omega)
    | false =>
      cases hq4 : anyE kk (nF (yK f)) (avInt (f (0 + kk) 0)) with
      | true =>
        refine round_exit (s0 := nylU n l r f c kk) (T := fun i => nylT n l r f c kk i) (i := kk) (nyle_1 ..) (by simp) (ob_cons rfl (ob_cons (Nat.le_refl _) (ob_cons (.inl ⟨rfl, rfl⟩) (ob_cons ?_ (ob_cons (Nat.le_refl _) (ob_cons ?_ (ob_cons ?_ (ob_cons ?_ (ob_cons ?_ (ob_cons ?_ (ob_cons ?_ (ob_cons ?_ ob_nil))))))))))))
        · with_reducible assumption
        · omega
        · with_reducible assumption
        · with_reducible assumption
        · with_reducible assumption
        · (apply Nat.ble_eq_true_of_le; omega)
        · (simp [Nat.blt_eq]; omega)
        · (simp [Nat.blt_eq]; omega)
      | false => exact absurd ⟨(show 0 ≤ avInt (f (0 + kk) 0) by omega), (show avInt (f (0 + kk) 0) < 256 by omega), hq3, hq4⟩ hb

end Go.Proofs.YtmndhjodbnojdaaDoor
