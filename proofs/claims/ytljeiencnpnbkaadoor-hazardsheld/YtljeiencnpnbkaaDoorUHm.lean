/-
  Hazards: what is held: the loop.
-/
import Derived.Test.YtljeiencnpnbkaaDoorUHoDef
set_option linter.unusedSimpArgs false
set_option linter.unusedVariables false
namespace Go.Proofs.YtljeiencnpnbkaaDoor
open Go.Ev
theorem hmr_1 (m : Nat) (f : Nat → Nat → AV) (e : Int) (ii : Nat) : roundB EHm 2000 hmL ((hmU m f e).hp) [] (hmT m f e ii) [Hint.b true, Hint.lp [3, 11, 12, 13, 18, 19] (Ex.exit 2) (hnX m f ii (hM f (ii + 1))).tmps (hnX m f ii (hM f (ii + 1))).hp.heap 5 [4, 3]] (hmT m f e (ii + 1)) =
 some (Ex.norm, [(0 : Nat) = 0,
 m = m,
 (none : Option Nat) = none,
 Int.ofNat m = Int.ofNat m,
 IntKind.i64.wrap (Int.ofNat ii + 1) = Int.ofNat (ii + 1),
 ∀ (k : List Int), hM f (ii + 1) k = hM f (ii + 1) k,
 true = true,
 (1 : Nat) ≤ (1 : Nat),
 tabF tab = tabF tab ∧ plainSh (List.map kindOfV tab) = true ∨ ∀ (i : Nat), i < 1 → rowOb (List.map kindOfV tab) 0 (tabF tab i) (tabF tab i),
 true = true,
 m ≤ m,
 f = f ∧ plainSh [CK.int IntKind.u64, CK.int IntKind.u64, CK.int IntKind.u64, CK.int IntKind.u64, CK.int IntKind.u64, CK.int IntKind.u64, CK.int IntKind.u64, CK.int IntKind.u64, CK.int IntKind.u64, CK.int IntKind.u64] = true ∨ ∀ (i : Nat), i < m → rowOb [CK.int IntKind.u64, CK.int IntKind.u64, CK.int IntKind.u64, CK.int IntKind.u64, CK.int IntKind.u64, CK.int IntKind.u64, CK.int IntKind.u64, CK.int IntKind.u64, CK.int IntKind.u64, CK.int IntKind.u64] 0 (f i) (f i),
 hnLP m f ii,
 (0 + ii).blt m = true,
 (ii.blt m && decide (0 ≤ Int.ofNat ii)) = true,
 decide (Int.ofNat ii < Int.ofNat m) = true]) := by kernel_rfl
theorem hmr_2 (m : Nat) (f : Nat → Nat → AV) (e : Int) (ii : Nat) : roundB EHm 2000 hmL ((hmU m f e).hp) [] (hmT m f e ii) [Hint.b false] (hmX m f e ii) =
 some (Ex.exit 0, [(0 : Nat) = 0,
 m = m,
 (none : Option Nat) = none,
 Int.ofNat m = Int.ofNat m,
 ∀ (k : List Int), hM f ii k = hM f ii k,
 true = true,
 (1 : Nat) ≤ (1 : Nat),
 tabF tab = tabF tab ∧ plainSh (List.map kindOfV tab) = true ∨ ∀ (i : Nat), i < 1 → rowOb (List.map kindOfV tab) 0 (tabF tab i) (tabF tab i),
 true = true,
 m ≤ m,
 f = f ∧ plainSh [CK.int IntKind.u64, CK.int IntKind.u64, CK.int IntKind.u64, CK.int IntKind.u64, CK.int IntKind.u64, CK.int IntKind.u64, CK.int IntKind.u64, CK.int IntKind.u64, CK.int IntKind.u64, CK.int IntKind.u64] = true ∨ ∀ (i : Nat), i < m → rowOb [CK.int IntKind.u64, CK.int IntKind.u64, CK.int IntKind.u64, CK.int IntKind.u64, CK.int IntKind.u64, CK.int IntKind.u64, CK.int IntKind.u64, CK.int IntKind.u64, CK.int IntKind.u64, CK.int IntKind.u64] 0 (f i) (f i),
 decide (Int.ofNat ii < Int.ofNat m) = false]) := by kernel_rfl
theorem hmi_1 (m : Nat) (f : Nat → Nat → AV) (e : Int) : castSt ((hmU m f e).hp) [] (hmU m f e) (hmT m f e 0) =
 some ([(0 : Nat) = 0,
 m = m,
 (none : Option Nat) = none,
 Int.ofNat m = Int.ofNat m,
 (0 : Int) = 0,
 ∀ (k : List Int), none = hM f 0 k,
 true = true,
 (1 : Nat) ≤ (1 : Nat),
 tabF tab = tabF tab ∧ plainSh (List.map kindOfV tab) = true ∨ ∀ (i : Nat), i < 1 → rowOb (List.map kindOfV tab) 0 (tabF tab i) (tabF tab i),
 true = true,
 m ≤ m,
 f = f ∧ plainSh [CK.int IntKind.u64, CK.int IntKind.u64, CK.int IntKind.u64, CK.int IntKind.u64, CK.int IntKind.u64, CK.int IntKind.u64, CK.int IntKind.u64, CK.int IntKind.u64, CK.int IntKind.u64, CK.int IntKind.u64] = true ∨ ∀ (i : Nat), i < m → rowOb [CK.int IntKind.u64, CK.int IntKind.u64, CK.int IntKind.u64, CK.int IntKind.u64, CK.int IntKind.u64, CK.int IntKind.u64, CK.int IntKind.u64, CK.int IntKind.u64, CK.int IntKind.u64, CK.int IntKind.u64] 0 (f i) (f i)]) := by kernel_rfl
theorem hm_lp (m : Nat) (f : Nat → Nat → AV) (e : Int) (hm : m ≤ 1000) (hf : ∀ i, i < m → ∀ j, 0 ≤ avInt (f (0 + i) j) ∧ avInt (f (0 + i) j) < 18446744073709551616) : hmLP m f e := by
  refine loop_rule EHm_ok (I := Nat) (fun i => hmT m f e i) (fun i => m - i) (fun i => i ≤ m) ?_ (fun ii hi => ?_)
  ·
    refine ⟨0, [], _, Nat.zero_le _, hmi_1 .., (ob_cons rfl (ob_cons rfl (ob_cons rfl (ob_cons rfl (ob_cons rfl (ob_cons ?_ (ob_cons rfl (ob_cons (Nat.le_refl _) (ob_cons (.inl ⟨rfl, rfl⟩) (ob_cons rfl (ob_cons (Nat.le_refl _) (ob_cons (.inl ⟨rfl, rfl⟩) ob_nil))))))))))))⟩
    ·
      first | exact rfl | exact .inl ⟨rfl, rfl⟩ | exact fun _ => rfl | exact Nat.le_refl _ | exact fun _ => rfl
  have hi : ii ≤ m := hi
  have hlp : ii < m → hnLP m f ii := fun h => hn_lp m f ii (hf ii h)
  cases h1 : (decide (Int.ofNat ii < Int.ofNat m)) with
  | true =>
    have g1 := of_decide_eq_true h1
    try simp only [Int.ofNat_eq_natCast, ge_iff_le, gt_iff_lt, Int.not_lt, Int.not_le] at g1
    refine round_norm (s0 := hmU m f e) (T := fun i => hmT m f e i) (i := ii) (ii + 1) (hmr_1 ..) (ob_cons rfl (ob_cons rfl (ob_cons rfl (ob_cons rfl (ob_cons ?_ (ob_cons (fun _ => rfl) (ob_cons rfl (ob_cons (Nat.le_refl _) (ob_cons (.inl ⟨rfl, rfl⟩) (ob_cons rfl (ob_cons (Nat.le_refl _) (ob_cons (.inl ⟨rfl, rfl⟩) (ob_cons ?_ (ob_cons ?_ (ob_cons ?_ (ob_cons h1 ob_nil)))))))))))))))) (by show ii + 1 ≤ m; omega) (by show m - (ii + 1) < m - ii; omega)
    ·
      first | with_reducible assumption | exact hlp (by omega) | exact rfl | exact .inl ⟨rfl, rfl⟩ | exact fun _ => rfl | (apply Nat.ble_eq_true_of_le; omega) | (simp [Nat.blt_eq]; omega) | (simp; done) | (simp; omega) | omega | exact wrap_nat64 _ (by simp; omega) (by simp; omega)
    ·
      first | with_reducible assumption | exact hlp (by omega) | exact rfl | exact .inl ⟨rfl, rfl⟩ | exact fun _ => rfl | (apply Nat.ble_eq_true_of_le; omega) | (simp [Nat.blt_eq]; omega) | (simp; done) | (simp; omega) | omega | trivial
    ·
      first | with_reducible assumption | exact hlp (by omega) | exact rfl | exact .inl ⟨rfl, rfl⟩ | exact fun _ => rfl | (apply Nat.ble_eq_true_of_le; omega) | (simp [Nat.blt_eq]; omega) | (simp; done) | (simp; omega) | omega | (apply Nat.ble_eq_true_of_le; omega) | (simp [Nat.blt_eq]; omega)
    ·
      first | with_reducible assumption | exact hlp (by omega) | exact rfl | exact .inl ⟨rfl, rfl⟩ | exact fun _ => rfl | (apply Nat.ble_eq_true_of_le; omega) | (simp [Nat.blt_eq]; omega) | (simp; done) | (simp; omega) | omega | (apply Nat.ble_eq_true_of_le; omega) | (simp [Nat.blt_eq]; omega)
  | false =>
    have g1 := of_decide_eq_false h1
    try simp only [Int.ofNat_eq_natCast, ge_iff_le, gt_iff_lt, Int.not_lt, Int.not_le] at g1
    obtain rfl : m = ii := by omega
    refine round_exit (s0 := hmU m f e) (T := fun i => hmT m f e i) (i := m) (hmr_2 ..) (by simp) (ob_cons rfl (ob_cons rfl (ob_cons rfl (ob_cons rfl (ob_cons (fun _ => rfl) (ob_cons rfl (ob_cons (Nat.le_refl _) (ob_cons (.inl ⟨rfl, rfl⟩) (ob_cons rfl (ob_cons (Nat.le_refl _) (ob_cons (.inl ⟨rfl, rfl⟩) (ob_cons h1 ob_nil))))))))))))
end Go.Proofs.YtljeiencnpnbkaaDoor
