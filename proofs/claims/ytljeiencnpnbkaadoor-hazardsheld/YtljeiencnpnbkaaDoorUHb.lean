/-
  HazardsHeld: is it among them?.
-/
import Derived.Test.YtljeiencnpnbkaaDoorUHbDef
set_option linter.unusedSimpArgs false
set_option linter.unusedVariables false
namespace Go.Proofs.YtljeiencnpnbkaaDoor
open Go.Ev
theorem hbr_1 (m : Nat) (f : Nat → Nat → AV) (mn : Nat) (fe : Nat → Nat → AV) (L : List K2) (i0 : Nat) (ii : Nat) : roundB EHw 2000 hbL ((hbU m f mn fe L i0).hp) [] (hbT m f mn fe L i0 ii) [Hint.b true, Hint.node [(1, [Hint.b true])]] (hbT m f mn fe L i0 (ii + 1)) =
 some (Ex.norm, [(0 : Nat) = 0,
 m = m,
 (none : Option Nat) = none,
 (0 : Nat) = 0,
 mn = mn,
 (none : Option Nat) = none,
 (0 : Nat) = 0,
 (0 : Nat) = 0,
 (0 : Nat) = 0,
 L.length = L.length,
 some L.length = some L.length,
 Int.ofNat i0 = Int.ofNat i0,
 true = isF L (avInt (fe (0 + i0) 0)) (avInt (fe (0 + i0) 1)) (ii + 1),
 IntKind.i64.wrap (Int.ofNat ii + 1) = Int.ofNat (ii + 1),
 (0 : Nat) = 0,
 m = m,
 (none : Option Nat) = none,
 true = true,
 (1 : Nat) ≤ (1 : Nat),
 tabF tab = tabF tab ∧ plainSh (List.map kindOfV tab) = true ∨ ∀ (i : Nat), i < 1 → rowOb (List.map kindOfV tab) 0 (tabF tab i) (tabF tab i),
 true = true,
 m ≤ m,
 f = f ∧ plainSh [CK.int IntKind.u64, CK.int IntKind.u64, CK.int IntKind.u64, CK.int IntKind.u64, CK.int IntKind.u64, CK.int IntKind.u64, CK.int IntKind.u64, CK.int IntKind.u64, CK.int IntKind.u64, CK.int IntKind.u64] = true ∨ ∀ (i : Nat), i < m → rowOb [CK.int IntKind.u64, CK.int IntKind.u64, CK.int IntKind.u64, CK.int IntKind.u64, CK.int IntKind.u64, CK.int IntKind.u64, CK.int IntKind.u64, CK.int IntKind.u64, CK.int IntKind.u64, CK.int IntKind.u64] 0 (f i) (f i),
 true = true,
 mn ≤ mn,
 fe = fe ∧ plainSh [CK.int IntKind.i64, CK.int IntKind.u32, CK.bool, CK.int IntKind.u64, CK.int IntKind.u64, CK.int IntKind.u64] = true ∨ ∀ (i : Nat), i < mn → rowOb [CK.int IntKind.i64, CK.int IntKind.u32, CK.bool, CK.int IntKind.u64, CK.int IntKind.u64, CK.int IntKind.u64] 0 (fe i) (fe i),
 false = false,
 L.length ≤ L.length,
 rfF L = rfF L ∧ plainSh rSh = true ∨ ∀ (i : Nat), i < L.length → rowOb rSh 0 (rfF L i) (rfF L i),
 isF L (avInt (fe (0 + i0) 0)) (avInt (fe (0 + i0) 1)) ii = true,
 decide (Int.ofNat ii < Int.ofNat L.length) = true]) := by kernel_rfl
theorem hbr_2 (m : Nat) (f : Nat → Nat → AV) (mn : Nat) (fe : Nat → Nat → AV) (L : List K2) (i0 : Nat) (ii : Nat) : roundB EHw 2000 hbL ((hbU m f mn fe L i0).hp) [] (hbT m f mn fe L i0 ii) [Hint.b true, Hint.node [(1, [Hint.b false]), (14, [Hint.b true])]] (hbT m f mn fe L i0 (ii + 1)) =
 some (Ex.norm, [(0 : Nat) = 0,
 m = m,
 (none : Option Nat) = none,
 (0 : Nat) = 0,
 mn = mn,
 (none : Option Nat) = none,
 (0 : Nat) = 0,
 (0 : Nat) = 0,
 (0 : Nat) = 0,
 L.length = L.length,
 some L.length = some L.length,
 Int.ofNat i0 = Int.ofNat i0,
 (avInt (rfF L (0 + ii) 1) == avInt (fe (0 + i0) 1)) = isF L (avInt (fe (0 + i0) 0)) (avInt (fe (0 + i0) 1)) (ii + 1),
 IntKind.i64.wrap (Int.ofNat ii + 1) = Int.ofNat (ii + 1),
 (0 : Nat) = 0,
 m = m,
 (none : Option Nat) = none,
 true = true,
 (1 : Nat) ≤ (1 : Nat),
 tabF tab = tabF tab ∧ plainSh (List.map kindOfV tab) = true ∨ ∀ (i : Nat), i < 1 → rowOb (List.map kindOfV tab) 0 (tabF tab i) (tabF tab i),
 true = true,
 m ≤ m,
 f = f ∧ plainSh [CK.int IntKind.u64, CK.int IntKind.u64, CK.int IntKind.u64, CK.int IntKind.u64, CK.int IntKind.u64, CK.int IntKind.u64, CK.int IntKind.u64, CK.int IntKind.u64, CK.int IntKind.u64, CK.int IntKind.u64] = true ∨ ∀ (i : Nat), i < m → rowOb [CK.int IntKind.u64, CK.int IntKind.u64, CK.int IntKind.u64, CK.int IntKind.u64, CK.int IntKind.u64, CK.int IntKind.u64, CK.int IntKind.u64, CK.int IntKind.u64, CK.int IntKind.u64, CK.int IntKind.u64] 0 (f i) (f i),
 true = true,
 mn ≤ mn,
 fe = fe ∧ plainSh [CK.int IntKind.i64, CK.int IntKind.u32, CK.bool, CK.int IntKind.u64, CK.int IntKind.u64, CK.int IntKind.u64] = true ∨ ∀ (i : Nat), i < mn → rowOb [CK.int IntKind.i64, CK.int IntKind.u32, CK.bool, CK.int IntKind.u64, CK.int IntKind.u64, CK.int IntKind.u64] 0 (fe i) (fe i),
 false = false,
 L.length ≤ L.length,
 rfF L = rfF L ∧ plainSh rSh = true ∨ ∀ (i : Nat), i < L.length → rowOb rSh 0 (rfF L i) (rfF L i),
 (0 + i0).blt mn = true,
 (i0.blt mn && decide (0 ≤ Int.ofNat i0)) = true,
 (0 + ii).blt L.length = true,
 (ii.blt L.length && decide (0 ≤ Int.ofNat ii)) = true,
 (avInt (rfF L (0 + ii) 0) == avInt (fe (0 + i0) 0)) = true,
 (0 + i0).blt mn = true,
 (i0.blt mn && decide (0 ≤ Int.ofNat i0)) = true,
 (0 + ii).blt L.length = true,
 (ii.blt L.length && decide (0 ≤ Int.ofNat ii)) = true,
 isF L (avInt (fe (0 + i0) 0)) (avInt (fe (0 + i0) 1)) ii = false,
 decide (Int.ofNat ii < Int.ofNat L.length) = true]) := by kernel_rfl
theorem hbr_3 (m : Nat) (f : Nat → Nat → AV) (mn : Nat) (fe : Nat → Nat → AV) (L : List K2) (i0 : Nat) (ii : Nat) : roundB EHw 2000 hbL ((hbU m f mn fe L i0).hp) [] (hbT m f mn fe L i0 ii) [Hint.b true, Hint.node [(1, [Hint.b false]), (14, [Hint.b false])]] (hbT m f mn fe L i0 (ii + 1)) =
 some (Ex.norm, [(0 : Nat) = 0,
 m = m,
 (none : Option Nat) = none,
 (0 : Nat) = 0,
 mn = mn,
 (none : Option Nat) = none,
 (0 : Nat) = 0,
 (0 : Nat) = 0,
 (0 : Nat) = 0,
 L.length = L.length,
 some L.length = some L.length,
 Int.ofNat i0 = Int.ofNat i0,
 false = isF L (avInt (fe (0 + i0) 0)) (avInt (fe (0 + i0) 1)) (ii + 1),
 IntKind.i64.wrap (Int.ofNat ii + 1) = Int.ofNat (ii + 1),
 (0 : Nat) = 0,
 m = m,
 (none : Option Nat) = none,
 true = true,
 (1 : Nat) ≤ (1 : Nat),
 tabF tab = tabF tab ∧ plainSh (List.map kindOfV tab) = true ∨ ∀ (i : Nat), i < 1 → rowOb (List.map kindOfV tab) 0 (tabF tab i) (tabF tab i),
 true = true,
 m ≤ m,
 f = f ∧ plainSh [CK.int IntKind.u64, CK.int IntKind.u64, CK.int IntKind.u64, CK.int IntKind.u64, CK.int IntKind.u64, CK.int IntKind.u64, CK.int IntKind.u64, CK.int IntKind.u64, CK.int IntKind.u64, CK.int IntKind.u64] = true ∨ ∀ (i : Nat), i < m → rowOb [CK.int IntKind.u64, CK.int IntKind.u64, CK.int IntKind.u64, CK.int IntKind.u64, CK.int IntKind.u64, CK.int IntKind.u64, CK.int IntKind.u64, CK.int IntKind.u64, CK.int IntKind.u64, CK.int IntKind.u64] 0 (f i) (f i),
 true = true,
 mn ≤ mn,
 fe = fe ∧ plainSh [CK.int IntKind.i64, CK.int IntKind.u32, CK.bool, CK.int IntKind.u64, CK.int IntKind.u64, CK.int IntKind.u64] = true ∨ ∀ (i : Nat), i < mn → rowOb [CK.int IntKind.i64, CK.int IntKind.u32, CK.bool, CK.int IntKind.u64, CK.int IntKind.u64, CK.int IntKind.u64] 0 (fe i) (fe i),
 false = false,
 L.length ≤ L.length,
 rfF L = rfF L ∧ plainSh rSh = true ∨ ∀ (i : Nat), i < L.length → rowOb rSh 0 (rfF L i) (rfF L i),
 (avInt (rfF L (0 + ii) 0) == avInt (fe (0 + i0) 0)) = false,
 (0 + i0).blt mn = true,
 (i0.blt mn && decide (0 ≤ Int.ofNat i0)) = true,
 (0 + ii).blt L.length = true,
 (ii.blt L.length && decide (0 ≤ Int.ofNat ii)) = true,
 isF L (avInt (fe (0 + i0) 0)) (avInt (fe (0 + i0) 1)) ii = false,
 decide (Int.ofNat ii < Int.ofNat L.length) = true]) := by kernel_rfl
theorem hbr_4 (m : Nat) (f : Nat → Nat → AV) (mn : Nat) (fe : Nat → Nat → AV) (L : List K2) (i0 : Nat) (ii : Nat) : roundB EHw 2000 hbL ((hbU m f mn fe L i0).hp) [] (hbT m f mn fe L i0 ii) [Hint.b false] (hbX m f mn fe L i0 ii) =
 some (Ex.exit 4, [(0 : Nat) = 0,
 m = m,
 (none : Option Nat) = none,
 (0 : Nat) = 0,
 mn = mn,
 (none : Option Nat) = none,
 (0 : Nat) = 0,
 (0 : Nat) = 0,
 (0 : Nat) = 0,
 L.length = L.length,
 some L.length = some L.length,
 Int.ofNat i0 = Int.ofNat i0,
 isF L (avInt (fe (0 + i0) 0)) (avInt (fe (0 + i0) 1)) ii = isF L (avInt (fe (0 + i0) 0)) (avInt (fe (0 + i0) 1)) ii,
 (0 : Nat) = 0,
 m = m,
 (none : Option Nat) = none,
 true = true,
 (1 : Nat) ≤ (1 : Nat),
 tabF tab = tabF tab ∧ plainSh (List.map kindOfV tab) = true ∨ ∀ (i : Nat), i < 1 → rowOb (List.map kindOfV tab) 0 (tabF tab i) (tabF tab i),
 true = true,
 m ≤ m,
 f = f ∧ plainSh [CK.int IntKind.u64, CK.int IntKind.u64, CK.int IntKind.u64, CK.int IntKind.u64, CK.int IntKind.u64, CK.int IntKind.u64, CK.int IntKind.u64, CK.int IntKind.u64, CK.int IntKind.u64, CK.int IntKind.u64] = true ∨ ∀ (i : Nat), i < m → rowOb [CK.int IntKind.u64, CK.int IntKind.u64, CK.int IntKind.u64, CK.int IntKind.u64, CK.int IntKind.u64, CK.int IntKind.u64, CK.int IntKind.u64, CK.int IntKind.u64, CK.int IntKind.u64, CK.int IntKind.u64] 0 (f i) (f i),
 true = true,
 mn ≤ mn,
 fe = fe ∧ plainSh [CK.int IntKind.i64, CK.int IntKind.u32, CK.bool, CK.int IntKind.u64, CK.int IntKind.u64, CK.int IntKind.u64] = true ∨ ∀ (i : Nat), i < mn → rowOb [CK.int IntKind.i64, CK.int IntKind.u32, CK.bool, CK.int IntKind.u64, CK.int IntKind.u64, CK.int IntKind.u64] 0 (fe i) (fe i),
 false = false,
 L.length ≤ L.length,
 rfF L = rfF L ∧ plainSh rSh = true ∨ ∀ (i : Nat), i < L.length → rowOb rSh 0 (rfF L i) (rfF L i),
 decide (Int.ofNat ii < Int.ofNat L.length) = false]) := by kernel_rfl
theorem hbi_1 (m : Nat) (f : Nat → Nat → AV) (mn : Nat) (fe : Nat → Nat → AV) (L : List K2) (i0 : Nat) : castSt ((hbU m f mn fe L i0).hp) [] (hbU m f mn fe L i0) (hbT m f mn fe L i0 0) =
 some ([(0 : Nat) = 0,
 m = m,
 (none : Option Nat) = none,
 (0 : Nat) = 0,
 mn = mn,
 (none : Option Nat) = none,
 (0 : Nat) = 0,
 (0 : Nat) = 0,
 (0 : Nat) = 0,
 L.length = L.length,
 some L.length = some L.length,
 Int.ofNat i0 = Int.ofNat i0,
 false = isF L (avInt (fe (0 + i0) 0)) (avInt (fe (0 + i0) 1)) 0,
 (0 : Int) = 0,
 (0 : Nat) = 0,
 m = m,
 (none : Option Nat) = none,
 true = true,
 (1 : Nat) ≤ (1 : Nat),
 tabF tab = tabF tab ∧ plainSh (List.map kindOfV tab) = true ∨ ∀ (i : Nat), i < 1 → rowOb (List.map kindOfV tab) 0 (tabF tab i) (tabF tab i),
 true = true,
 m ≤ m,
 f = f ∧ plainSh [CK.int IntKind.u64, CK.int IntKind.u64, CK.int IntKind.u64, CK.int IntKind.u64, CK.int IntKind.u64, CK.int IntKind.u64, CK.int IntKind.u64, CK.int IntKind.u64, CK.int IntKind.u64, CK.int IntKind.u64] = true ∨ ∀ (i : Nat), i < m → rowOb [CK.int IntKind.u64, CK.int IntKind.u64, CK.int IntKind.u64, CK.int IntKind.u64, CK.int IntKind.u64, CK.int IntKind.u64, CK.int IntKind.u64, CK.int IntKind.u64, CK.int IntKind.u64, CK.int IntKind.u64] 0 (f i) (f i),
 true = true,
 mn ≤ mn,
 fe = fe ∧ plainSh [CK.int IntKind.i64, CK.int IntKind.u32, CK.bool, CK.int IntKind.u64, CK.int IntKind.u64, CK.int IntKind.u64] = true ∨ ∀ (i : Nat), i < mn → rowOb [CK.int IntKind.i64, CK.int IntKind.u32, CK.bool, CK.int IntKind.u64, CK.int IntKind.u64, CK.int IntKind.u64] 0 (fe i) (fe i),
 false = false,
 L.length ≤ L.length,
 rfF L = rfF L ∧ plainSh rSh = true ∨ ∀ (i : Nat), i < L.length → rowOb rSh 0 (rfF L i) (rfF L i)]) := by kernel_rfl
theorem hb_lp (m : Nat) (f : Nat → Nat → AV) (mn : Nat) (fe : Nat → Nat → AV) (L : List K2) (i0 : Nat) (hN : L.length ≤ 1000) (hi0 : i0 < mn) (hmn : mn ≤ 1000) : hbLP m f mn fe L i0 := by
  refine loop_rule EHw_ok (I := Nat) (fun i => hbT m f mn fe L i0 i) (fun i => L.length - i) (fun i => i ≤ L.length) ?_ (fun ii hi => ?_)
  ·
    refine ⟨0, [], _, Nat.zero_le _, hbi_1 .., (ob_cons rfl (ob_cons rfl (ob_cons rfl (ob_cons rfl (ob_cons rfl (ob_cons rfl (ob_cons rfl (ob_cons rfl (ob_cons rfl (ob_cons rfl (ob_cons rfl (ob_cons rfl (ob_cons ?_ (ob_cons rfl (ob_cons rfl (ob_cons rfl (ob_cons rfl (ob_cons rfl (ob_cons (Nat.le_refl _) (ob_cons (.inl ⟨rfl, rfl⟩) (ob_cons rfl (ob_cons (Nat.le_refl _) (ob_cons (.inl ⟨rfl, rfl⟩) (ob_cons rfl (ob_cons (Nat.le_refl _) (ob_cons (.inl ⟨rfl, rfl⟩) (ob_cons rfl (ob_cons (Nat.le_refl _) (ob_cons (.inl ⟨rfl, rfl⟩) ob_nil)))))))))))))))))))))))))))))⟩
    ·
      first | exact rfl | exact .inl ⟨rfl, rfl⟩ | exact fun _ => rfl | exact Nat.le_refl _ | rfl
  have hi : ii ≤ L.length := hi
  cases h1 : (decide (Int.ofNat ii < Int.ofNat L.length)) with
  | true =>
    have g1 := of_decide_eq_true h1
    try simp only [Int.ofNat_eq_natCast, ge_iff_le, gt_iff_lt, Int.not_lt, Int.not_le] at g1
    cases h2 : (isF L (avInt (fe (0 + i0) 0)) (avInt (fe (0 + i0) 1)) ii) with
    | true =>
      refine round_norm (s0 := hbU m f mn fe L i0) (T := fun i => hbT m f mn fe L i0 i) (i := ii) (ii + 1) (hbr_1 ..) (ob_cons rfl (ob_cons rfl (ob_cons rfl (ob_cons rfl (ob_cons rfl (ob_cons rfl (ob_cons rfl (ob_cons rfl (ob_cons rfl (ob_cons rfl (ob_cons rfl (ob_cons rfl (ob_cons ?_ (ob_cons ?_ (ob_cons rfl (ob_cons rfl (ob_cons rfl (ob_cons rfl (ob_cons (Nat.le_refl _) (ob_cons (.inl ⟨rfl, rfl⟩) (ob_cons rfl (ob_cons (Nat.le_refl _) (ob_cons (.inl ⟨rfl, rfl⟩) (ob_cons rfl (ob_cons (Nat.le_refl _) (ob_cons (.inl ⟨rfl, rfl⟩) (ob_cons rfl (ob_cons (Nat.le_refl _) (ob_cons (.inl ⟨rfl, rfl⟩) (ob_cons h2 (ob_cons h1 ob_nil))))))))))))))))))))))))))))))) (by show ii + 1 ≤ L.length; omega) (by show L.length - (ii + 1) < L.length - ii; omega)
      ·
        first | with_reducible assumption | exact rfl | exact tabIs_self _ | exact .inl ⟨rfl, rfl⟩ | exact fun _ => rfl | (rw [isF_s, h2]; rfl) | (rw [isF_s, h2, h3]; rfl) | (apply Nat.ble_eq_true_of_le; omega) | (simp [Nat.blt_eq]; omega) | (simp; done) | (simp; omega) | omega | rfl
      ·
        first | with_reducible assumption | exact rfl | exact tabIs_self _ | exact .inl ⟨rfl, rfl⟩ | exact fun _ => rfl | (rw [isF_s, h2]; rfl) | (rw [isF_s, h2, h3]; rfl) | (apply Nat.ble_eq_true_of_le; omega) | (simp [Nat.blt_eq]; omega) | (simp; done) | (simp; omega) | omega | exact wrap_nat64 _ (by simp; omega) (by simp; omega)
    | false =>
      cases h3 : (avInt (rfF L (0 + ii) 0) == avInt (fe (0 + i0) 0)) with
      | true =>
        refine round_norm (s0 := hbU m f mn fe L i0) (T := fun i => hbT m f mn fe L i0 i) (i := ii) (ii + 1) (hbr_2 ..) (ob_cons rfl (ob_cons rfl (ob_cons rfl (ob_cons rfl (ob_cons rfl (ob_cons rfl (ob_cons rfl (ob_cons rfl (ob_cons rfl (ob_cons rfl (ob_cons rfl (ob_cons rfl (ob_cons ?_ (ob_cons ?_ (ob_cons rfl (ob_cons rfl (ob_cons rfl (ob_cons rfl (ob_cons (Nat.le_refl _) (ob_cons (.inl ⟨rfl, rfl⟩) (ob_cons rfl (ob_cons (Nat.le_refl _) (ob_cons (.inl ⟨rfl, rfl⟩) (ob_cons rfl (ob_cons (Nat.le_refl _) (ob_cons (.inl ⟨rfl, rfl⟩) (ob_cons rfl (ob_cons (Nat.le_refl _) (ob_cons (.inl ⟨rfl, rfl⟩) (ob_cons ?_ (ob_cons ?_ (ob_cons ?_ (ob_cons ?_ (ob_cons h3 (ob_cons ?_ (ob_cons ?_ (ob_cons ?_ (ob_cons ?_ (ob_cons h2 (ob_cons h1 ob_nil)))))))))))))))))))))))))))))))))))))))) (by show ii + 1 ≤ L.length; omega) (by show L.length - (ii + 1) < L.length - ii; omega)
        ·
          first | with_reducible assumption | exact rfl | exact tabIs_self _ | exact .inl ⟨rfl, rfl⟩ | exact fun _ => rfl | (rw [isF_s, h2]; rfl) | (rw [isF_s, h2, h3]; rfl) | (apply Nat.ble_eq_true_of_le; omega) | (simp [Nat.blt_eq]; omega) | (simp; done) | (simp; omega) | omega | rfl
        ·
          first | with_reducible assumption | exact rfl | exact tabIs_self _ | exact .inl ⟨rfl, rfl⟩ | exact fun _ => rfl | (rw [isF_s, h2]; rfl) | (rw [isF_s, h2, h3]; rfl) | (apply Nat.ble_eq_true_of_le; omega) | (simp [Nat.blt_eq]; omega) | (simp; done) | (simp; omega) | omega | exact wrap_nat64 _ (by simp; omega) (by simp; omega)
        ·
          first | with_reducible assumption | exact rfl | exact tabIs_self _ | exact .inl ⟨rfl, rfl⟩ | exact fun _ => rfl | (rw [isF_s, h2]; rfl) | (rw [isF_s, h2, h3]; rfl) | (apply Nat.ble_eq_true_of_le; omega) | (simp [Nat.blt_eq]; omega) | (simp; done) | (simp; omega) | omega | (apply Nat.ble_eq_true_of_le; omega) | (simp [Nat.blt_eq]; omega)
        ·
          first | with_reducible assumption | exact rfl | exact tabIs_self _ | exact .inl ⟨rfl, rfl⟩ | exact fun _ => rfl | (rw [isF_s, h2]; rfl) | (rw [isF_s, h2, h3]; rfl) | (apply Nat.ble_eq_true_of_le; omega) | (simp [Nat.blt_eq]; omega) | (simp; done) | (simp; omega) | omega | (apply Nat.ble_eq_true_of_le; omega) | (simp [Nat.blt_eq]; omega)
        ·
          first | with_reducible assumption | exact rfl | exact tabIs_self _ | exact .inl ⟨rfl, rfl⟩ | exact fun _ => rfl | (rw [isF_s, h2]; rfl) | (rw [isF_s, h2, h3]; rfl) | (apply Nat.ble_eq_true_of_le; omega) | (simp [Nat.blt_eq]; omega) | (simp; done) | (simp; omega) | omega | (apply Nat.ble_eq_true_of_le; omega) | (simp [Nat.blt_eq]; omega)
        ·
          first | with_reducible assumption | exact rfl | exact tabIs_self _ | exact .inl ⟨rfl, rfl⟩ | exact fun _ => rfl | (rw [isF_s, h2]; rfl) | (rw [isF_s, h2, h3]; rfl) | (apply Nat.ble_eq_true_of_le; omega) | (simp [Nat.blt_eq]; omega) | (simp; done) | (simp; omega) | omega | (apply Nat.ble_eq_true_of_le; omega) | (simp [Nat.blt_eq]; omega)
        ·
          first | with_reducible assumption | exact rfl | exact tabIs_self _ | exact .inl ⟨rfl, rfl⟩ | exact fun _ => rfl | (rw [isF_s, h2]; rfl) | (rw [isF_s, h2, h3]; rfl) | (apply Nat.ble_eq_true_of_le; omega) | (simp [Nat.blt_eq]; omega) | (simp; done) | (simp; omega) | omega | (apply Nat.ble_eq_true_of_le; omega) | (simp [Nat.blt_eq]; omega)
        ·
          first | with_reducible assumption | exact rfl | exact tabIs_self _ | exact .inl ⟨rfl, rfl⟩ | exact fun _ => rfl | (rw [isF_s, h2]; rfl) | (rw [isF_s, h2, h3]; rfl) | (apply Nat.ble_eq_true_of_le; omega) | (simp [Nat.blt_eq]; omega) | (simp; done) | (simp; omega) | omega | (apply Nat.ble_eq_true_of_le; omega) | (simp [Nat.blt_eq]; omega)
        ·
          first | with_reducible assumption | exact rfl | exact tabIs_self _ | exact .inl ⟨rfl, rfl⟩ | exact fun _ => rfl | (rw [isF_s, h2]; rfl) | (rw [isF_s, h2, h3]; rfl) | (apply Nat.ble_eq_true_of_le; omega) | (simp [Nat.blt_eq]; omega) | (simp; done) | (simp; omega) | omega | (apply Nat.ble_eq_true_of_le; omega) | (simp [Nat.blt_eq]; omega)
        ·
          first | with_reducible assumption | exact rfl | exact tabIs_self _ | exact .inl ⟨rfl, rfl⟩ | exact fun _ => rfl | (rw [isF_s, h2]; rfl) | (rw [isF_s, h2, h3]; rfl) | (apply Nat.ble_eq_true_of_le; omega) | (simp [Nat.blt_eq]; omega) | (simp; done) | (simp; omega) | omega | (apply Nat.ble_eq_true_of_le; omega) | (simp [Nat.blt_eq]; omega)
      | false =>
        refine round_norm (s0 := hbU m f mn fe L i0) (T := fun i => hbT m f mn fe L i0 i) (i := ii) (ii + 1) (hbr_3 ..) (ob_cons rfl (ob_cons rfl (ob_cons rfl (ob_cons rfl (ob_cons rfl (ob_cons rfl (ob_cons rfl (ob_cons rfl (ob_cons rfl (ob_cons rfl (ob_cons rfl (ob_cons rfl (ob_cons ?_ (ob_cons ?_ (ob_cons rfl (ob_cons rfl (ob_cons rfl (ob_cons rfl (ob_cons (Nat.le_refl _) (ob_cons (.inl ⟨rfl, rfl⟩) (ob_cons rfl (ob_cons (Nat.le_refl _) (ob_cons (.inl ⟨rfl, rfl⟩) (ob_cons rfl (ob_cons (Nat.le_refl _) (ob_cons (.inl ⟨rfl, rfl⟩) (ob_cons rfl (ob_cons (Nat.le_refl _) (ob_cons (.inl ⟨rfl, rfl⟩) (ob_cons h3 (ob_cons ?_ (ob_cons ?_ (ob_cons ?_ (ob_cons ?_ (ob_cons h2 (ob_cons h1 ob_nil)))))))))))))))))))))))))))))))))))) (by show ii + 1 ≤ L.length; omega) (by show L.length - (ii + 1) < L.length - ii; omega)
        ·
          first | with_reducible assumption | exact rfl | exact tabIs_self _ | exact .inl ⟨rfl, rfl⟩ | exact fun _ => rfl | (rw [isF_s, h2]; rfl) | (rw [isF_s, h2, h3]; rfl) | (apply Nat.ble_eq_true_of_le; omega) | (simp [Nat.blt_eq]; omega) | (simp; done) | (simp; omega) | omega | rfl
        ·
          first | with_reducible assumption | exact rfl | exact tabIs_self _ | exact .inl ⟨rfl, rfl⟩ | exact fun _ => rfl | (rw [isF_s, h2]; rfl) | (rw [isF_s, h2, h3]; rfl) | (apply Nat.ble_eq_true_of_le; omega) | (simp [Nat.blt_eq]; omega) | (simp; done) | (simp; omega) | omega | exact wrap_nat64 _ (by simp; omega) (by simp; omega)
        ·
          first | with_reducible assumption | exact rfl | exact tabIs_self _ | exact .inl ⟨rfl, rfl⟩ | exact fun _ => rfl | (rw [isF_s, h2]; rfl) | (rw [isF_s, h2, h3]; rfl) | (apply Nat.ble_eq_true_of_le; omega) | (simp [Nat.blt_eq]; omega) | (simp; done) | (simp; omega) | omega | (apply Nat.ble_eq_true_of_le; omega) | (simp [Nat.blt_eq]; omega)
        ·
          first | with_reducible assumption | exact rfl | exact tabIs_self _ | exact .inl ⟨rfl, rfl⟩ | exact fun _ => rfl | (rw [isF_s, h2]; rfl) | (rw [isF_s, h2, h3]; rfl) | (apply Nat.ble_eq_true_of_le; omega) | (simp [Nat.blt_eq]; omega) | (simp; done) | (simp; omega) | omega | (apply Nat.ble_eq_true_of_le; omega) | (simp [Nat.blt_eq]; omega)
        ·
          first | with_reducible assumption | exact rfl | exact tabIs_self _ | exact .inl ⟨rfl, rfl⟩ | exact fun _ => rfl | (rw [isF_s, h2]; rfl) | (rw [isF_s, h2, h3]; rfl) | (apply Nat.ble_eq_true_of_le; omega) | (simp [Nat.blt_eq]; omega) | (simp; done) | (simp; omega) | omega | (apply Nat.ble_eq_true_of_le; omega) | (simp [Nat.blt_eq]; omega)
        ·
          first | with_reducible assumption | exact rfl | exact tabIs_self _ | exact .inl ⟨rfl, rfl⟩ | exact fun _ => rfl | (rw [isF_s, h2]; rfl) | (rw [isF_s, h2, h3]; rfl) | (apply Nat.ble_eq_true_of_le; omega) | (simp [Nat.blt_eq]; omega) | (simp; done) | (simp; omega) | omega | (apply Nat.ble_eq_true_of_le; omega) | (simp [Nat.blt_eq]; omega)
  | false =>
    have g1 := of_decide_eq_false h1
    try simp only [Int.ofNat_eq_natCast, ge_iff_le, gt_iff_lt, Int.not_lt, Int.not_le] at g1
    obtain rfl : L.length = ii := by omega
    refine round_exit (s0 := hbU m f mn fe L i0) (T := fun i => hbT m f mn fe L i0 i) (i := L.length) (hbr_4 ..) (by simp) (ob_cons rfl (ob_cons rfl (ob_cons rfl (ob_cons rfl (ob_cons rfl (ob_cons rfl (ob_cons rfl (ob_cons rfl (ob_cons rfl (ob_cons rfl (ob_cons rfl (ob_cons rfl (ob_cons rfl (ob_cons rfl (ob_cons rfl (ob_cons rfl (ob_cons rfl (ob_cons (Nat.le_refl _) (ob_cons (.inl ⟨rfl, rfl⟩) (ob_cons rfl (ob_cons (Nat.le_refl _) (ob_cons (.inl ⟨rfl, rfl⟩) (ob_cons rfl (ob_cons (Nat.le_refl _) (ob_cons (.inl ⟨rfl, rfl⟩) (ob_cons rfl (ob_cons (Nat.le_refl _) (ob_cons (.inl ⟨rfl, rfl⟩) (ob_cons h1 ob_nil)))))))))))))))))))))))))))))
end Go.Proofs.YtljeiencnpnbkaaDoor
