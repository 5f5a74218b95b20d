/-
  HazardsHeld: the first loop.
-/
import Derived.Test.YtljeiencnpnbkaaDoorUHaDef
set_option linter.unusedSimpArgs false
set_option linter.unusedVariables false
namespace Go.Proofs.YtljeiencnpnbkaaDoor
open Go.Ev
theorem har_1 (m : Nat) (f : Nat → Nat → AV) (mn : Nat) (fe : Nat → Nat → AV) (L : List K2) (ii : Nat) : roundB EHw 2000 haL ((haU m f mn fe L).hp) [] (haT m f mn fe L ii) [Hint.b true, Hint.node [(5, [Hint.b false]), (14, [Hint.b false]), (17, [Hint.b false])]] (haT m f mn fe L (ii + 1)) =
 some (Ex.norm, [(0 : Nat) = 0,
 m = m,
 (none : Option Nat) = none,
 (0 : Nat) = 0,
 mn = mn,
 (none : Option Nat) = none,
 (0 : Nat) = 0,
 (0 : Nat) = 0,
 (0 : Nat) = 0,
 L.length = L.length,
 some L.length = some L.length,
 IntKind.i64.wrap (Int.ofNat ii + 1) = Int.ofNat (ii + 1),
 (0 : Nat) = 0,
 m = m,
 (none : Option Nat) = none,
 true = true,
 (1 : Nat) ≤ (1 : Nat),
 tabF tab = tabF tab ∧ plainSh (List.map kindOfV tab) = true ∨ ∀ (i : Nat), i < 1 → rowOb (List.map kindOfV tab) 0 (tabF tab i) (tabF tab i),
 true = true,
 m ≤ m,
 f = f ∧ plainSh [CK.int IntKind.u64, CK.int IntKind.u64, CK.int IntKind.u64, CK.int IntKind.u64, CK.int IntKind.u64, CK.int IntKind.u64, CK.int IntKind.u64, CK.int IntKind.u64, CK.int IntKind.u64, CK.int IntKind.u64] = true ∨ ∀ (i : Nat), i < m → rowOb [CK.int IntKind.u64, CK.int IntKind.u64, CK.int IntKind.u64, CK.int IntKind.u64, CK.int IntKind.u64, CK.int IntKind.u64, CK.int IntKind.u64, CK.int IntKind.u64, CK.int IntKind.u64, CK.int IntKind.u64] 0 (f i) (f i),
 true = true,
 mn ≤ mn,
 fe = fe ∧ plainSh [CK.int IntKind.i64, CK.int IntKind.u32, CK.bool, CK.int IntKind.u64, CK.int IntKind.u64, CK.int IntKind.u64] = true ∨ ∀ (i : Nat), i < mn → rowOb [CK.int IntKind.i64, CK.int IntKind.u32, CK.bool, CK.int IntKind.u64, CK.int IntKind.u64, CK.int IntKind.u64] 0 (fe i) (fe i),
 false = false,
 L.length ≤ L.length,
 rfF L = rfF L ∧ plainSh rSh = true ∨ ∀ (i : Nat), i < L.length → rowOb rSh 0 (rfF L i) (rfF L i),
 decide (Int.ofNat ii > 0) = false,
 (mget (hM f m) [avInt (rfF L (0 + ii) 0), avInt (rfF L (0 + ii) 1), 0] == 0) = false,
 m = m,
 tabF tab = tabF tab,
 m ≤ 300,
 ∀ (i : Nat), i < m → ∀ (j : Nat), 0 ≤ avInt (f (0 + i) j) ∧ avInt (f (0 + i) j) < 18446744073709551616,
 (0 + ii).blt L.length = true,
 (ii.blt L.length && decide (0 ≤ Int.ofNat ii)) = true,
 avBool (rfF L (0 + ii) 2) = false,
 (0 + ii).blt L.length = true,
 (ii.blt L.length && decide (0 ≤ Int.ofNat ii)) = true,
 decide (Int.ofNat ii < Int.ofNat L.length) = true]) := by kernel_rfl
theorem har_2 (m : Nat) (f : Nat → Nat → AV) (mn : Nat) (fe : Nat → Nat → AV) (L : List K2) (ii : Nat) : roundB EHw 2000 haL ((haU m f mn fe L).hp) [] (haT m f mn fe L ii) [Hint.b true, Hint.node [(5, [Hint.b false]), (14, [Hint.b false]), (17, [Hint.b true]), (30, [Hint.b false]), (43, [Hint.b false])]] (haT m f mn fe L (ii + 1)) =
 some (Ex.norm, [(0 : Nat) = 0,
 m = m,
 (none : Option Nat) = none,
 (0 : Nat) = 0,
 mn = mn,
 (none : Option Nat) = none,
 (0 : Nat) = 0,
 (0 : Nat) = 0,
 (0 : Nat) = 0,
 L.length = L.length,
 some L.length = some L.length,
 IntKind.i64.wrap (Int.ofNat ii + 1) = Int.ofNat (ii + 1),
 (0 : Nat) = 0,
 m = m,
 (none : Option Nat) = none,
 true = true,
 (1 : Nat) ≤ (1 : Nat),
 tabF tab = tabF tab ∧ plainSh (List.map kindOfV tab) = true ∨ ∀ (i : Nat), i < 1 → rowOb (List.map kindOfV tab) 0 (tabF tab i) (tabF tab i),
 true = true,
 m ≤ m,
 f = f ∧ plainSh [CK.int IntKind.u64, CK.int IntKind.u64, CK.int IntKind.u64, CK.int IntKind.u64, CK.int IntKind.u64, CK.int IntKind.u64, CK.int IntKind.u64, CK.int IntKind.u64, CK.int IntKind.u64, CK.int IntKind.u64] = true ∨ ∀ (i : Nat), i < m → rowOb [CK.int IntKind.u64, CK.int IntKind.u64, CK.int IntKind.u64, CK.int IntKind.u64, CK.int IntKind.u64, CK.int IntKind.u64, CK.int IntKind.u64, CK.int IntKind.u64, CK.int IntKind.u64, CK.int IntKind.u64] 0 (f i) (f i),
 true = true,
 mn ≤ mn,
 fe = fe ∧ plainSh [CK.int IntKind.i64, CK.int IntKind.u32, CK.bool, CK.int IntKind.u64, CK.int IntKind.u64, CK.int IntKind.u64] = true ∨ ∀ (i : Nat), i < mn → rowOb [CK.int IntKind.i64, CK.int IntKind.u32, CK.bool, CK.int IntKind.u64, CK.int IntKind.u64, CK.int IntKind.u64] 0 (fe i) (fe i),
 false = false,
 L.length ≤ L.length,
 rfF L = rfF L ∧ plainSh rSh = true ∨ ∀ (i : Nat), i < L.length → rowOb rSh 0 (rfF L i) (rfF L i),
 (avInt (rfF L (0 + (IntKind.i64.wrap (Int.ofNat ii - 1)).toNat) 0) == avInt (rfF L (0 + ii) 0)) = false,
 (0 + ii).blt L.length = true,
 (ii.blt L.length && decide (0 ≤ Int.ofNat ii)) = true,
 (0 + (IntKind.i64.wrap (Int.ofNat ii - 1)).toNat).blt L.length = true,
 ((IntKind.i64.wrap (Int.ofNat ii - 1)).toNat.blt L.length && decide (0 ≤ IntKind.i64.wrap (Int.ofNat ii - 1))) = true,
 decide (avInt (rfF L (0 + (IntKind.i64.wrap (Int.ofNat ii - 1)).toNat) 0) > avInt (rfF L (0 + ii) 0)) = false,
 (0 + ii).blt L.length = true,
 (ii.blt L.length && decide (0 ≤ Int.ofNat ii)) = true,
 (0 + (IntKind.i64.wrap (Int.ofNat ii - 1)).toNat).blt L.length = true,
 ((IntKind.i64.wrap (Int.ofNat ii - 1)).toNat.blt L.length && decide (0 ≤ IntKind.i64.wrap (Int.ofNat ii - 1))) = true,
 decide (Int.ofNat ii > 0) = true,
 (mget (hM f m) [avInt (rfF L (0 + ii) 0), avInt (rfF L (0 + ii) 1), 0] == 0) = false,
 m = m,
 tabF tab = tabF tab,
 m ≤ 300,
 ∀ (i : Nat), i < m → ∀ (j : Nat), 0 ≤ avInt (f (0 + i) j) ∧ avInt (f (0 + i) j) < 18446744073709551616,
 (0 + ii).blt L.length = true,
 (ii.blt L.length && decide (0 ≤ Int.ofNat ii)) = true,
 avBool (rfF L (0 + ii) 2) = false,
 (0 + ii).blt L.length = true,
 (ii.blt L.length && decide (0 ≤ Int.ofNat ii)) = true,
 decide (Int.ofNat ii < Int.ofNat L.length) = true]) := by kernel_rfl
theorem har_3 (m : Nat) (f : Nat → Nat → AV) (mn : Nat) (fe : Nat → Nat → AV) (L : List K2) (ii : Nat) : roundB EHw 2000 haL ((haU m f mn fe L).hp) [] (haT m f mn fe L ii) [Hint.b true, Hint.node [(5, [Hint.b false]), (14, [Hint.b false]), (17, [Hint.b true]), (30, [Hint.b false]), (43, [Hint.b true])], Hint.b false] (haT m f mn fe L (ii + 1)) =
 some (Ex.norm, [(0 : Nat) = 0,
 m = m,
 (none : Option Nat) = none,
 (0 : Nat) = 0,
 mn = mn,
 (none : Option Nat) = none,
 (0 : Nat) = 0,
 (0 : Nat) = 0,
 (0 : Nat) = 0,
 L.length = L.length,
 some L.length = some L.length,
 IntKind.i64.wrap (Int.ofNat ii + 1) = Int.ofNat (ii + 1),
 (0 : Nat) = 0,
 m = m,
 (none : Option Nat) = none,
 true = true,
 (1 : Nat) ≤ (1 : Nat),
 tabF tab = tabF tab ∧ plainSh (List.map kindOfV tab) = true ∨ ∀ (i : Nat), i < 1 → rowOb (List.map kindOfV tab) 0 (tabF tab i) (tabF tab i),
 true = true,
 m ≤ m,
 f = f ∧ plainSh [CK.int IntKind.u64, CK.int IntKind.u64, CK.int IntKind.u64, CK.int IntKind.u64, CK.int IntKind.u64, CK.int IntKind.u64, CK.int IntKind.u64, CK.int IntKind.u64, CK.int IntKind.u64, CK.int IntKind.u64] = true ∨ ∀ (i : Nat), i < m → rowOb [CK.int IntKind.u64, CK.int IntKind.u64, CK.int IntKind.u64, CK.int IntKind.u64, CK.int IntKind.u64, CK.int IntKind.u64, CK.int IntKind.u64, CK.int IntKind.u64, CK.int IntKind.u64, CK.int IntKind.u64] 0 (f i) (f i),
 true = true,
 mn ≤ mn,
 fe = fe ∧ plainSh [CK.int IntKind.i64, CK.int IntKind.u32, CK.bool, CK.int IntKind.u64, CK.int IntKind.u64, CK.int IntKind.u64] = true ∨ ∀ (i : Nat), i < mn → rowOb [CK.int IntKind.i64, CK.int IntKind.u32, CK.bool, CK.int IntKind.u64, CK.int IntKind.u64, CK.int IntKind.u64] 0 (fe i) (fe i),
 false = false,
 L.length ≤ L.length,
 rfF L = rfF L ∧ plainSh rSh = true ∨ ∀ (i : Nat), i < L.length → rowOb rSh 0 (rfF L i) (rfF L i),
 decide (avInt (rfF L (0 + (IntKind.i64.wrap (Int.ofNat ii - 1)).toNat) 1) ≥ avInt (rfF L (0 + ii) 1)) = false,
 (0 + ii).blt L.length = true,
 (ii.blt L.length && decide (0 ≤ Int.ofNat ii)) = true,
 (0 + (IntKind.i64.wrap (Int.ofNat ii - 1)).toNat).blt L.length = true,
 ((IntKind.i64.wrap (Int.ofNat ii - 1)).toNat.blt L.length && decide (0 ≤ IntKind.i64.wrap (Int.ofNat ii - 1))) = true,
 (avInt (rfF L (0 + (IntKind.i64.wrap (Int.ofNat ii - 1)).toNat) 0) == avInt (rfF L (0 + ii) 0)) = true,
 (0 + ii).blt L.length = true,
 (ii.blt L.length && decide (0 ≤ Int.ofNat ii)) = true,
 (0 + (IntKind.i64.wrap (Int.ofNat ii - 1)).toNat).blt L.length = true,
 ((IntKind.i64.wrap (Int.ofNat ii - 1)).toNat.blt L.length && decide (0 ≤ IntKind.i64.wrap (Int.ofNat ii - 1))) = true,
 decide (avInt (rfF L (0 + (IntKind.i64.wrap (Int.ofNat ii - 1)).toNat) 0) > avInt (rfF L (0 + ii) 0)) = false,
 (0 + ii).blt L.length = true,
 (ii.blt L.length && decide (0 ≤ Int.ofNat ii)) = true,
 (0 + (IntKind.i64.wrap (Int.ofNat ii - 1)).toNat).blt L.length = true,
 ((IntKind.i64.wrap (Int.ofNat ii - 1)).toNat.blt L.length && decide (0 ≤ IntKind.i64.wrap (Int.ofNat ii - 1))) = true,
 decide (Int.ofNat ii > 0) = true,
 (mget (hM f m) [avInt (rfF L (0 + ii) 0), avInt (rfF L (0 + ii) 1), 0] == 0) = false,
 m = m,
 tabF tab = tabF tab,
 m ≤ 300,
 ∀ (i : Nat), i < m → ∀ (j : Nat), 0 ≤ avInt (f (0 + i) j) ∧ avInt (f (0 + i) j) < 18446744073709551616,
 (0 + ii).blt L.length = true,
 (ii.blt L.length && decide (0 ≤ Int.ofNat ii)) = true,
 avBool (rfF L (0 + ii) 2) = false,
 (0 + ii).blt L.length = true,
 (ii.blt L.length && decide (0 ≤ Int.ofNat ii)) = true,
 decide (Int.ofNat ii < Int.ofNat L.length) = true]) := by kernel_rfl
theorem har_4 (m : Nat) (f : Nat → Nat → AV) (mn : Nat) (fe : Nat → Nat → AV) (L : List K2) (ii : Nat) : roundB EHw 2000 haL ((haU m f mn fe L).hp) [] (haT m f mn fe L ii) [Hint.b false] (haX m f mn fe L ii) =
 some (Ex.exit 0, [(0 : Nat) = 0,
 m = m,
 (none : Option Nat) = none,
 (0 : Nat) = 0,
 mn = mn,
 (none : Option Nat) = none,
 (0 : Nat) = 0,
 (0 : Nat) = 0,
 (0 : Nat) = 0,
 L.length = L.length,
 some L.length = some L.length,
 (0 : Nat) = 0,
 m = m,
 (none : Option Nat) = none,
 true = true,
 (1 : Nat) ≤ (1 : Nat),
 tabF tab = tabF tab ∧ plainSh (List.map kindOfV tab) = true ∨ ∀ (i : Nat), i < 1 → rowOb (List.map kindOfV tab) 0 (tabF tab i) (tabF tab i),
 true = true,
 m ≤ m,
 f = f ∧ plainSh [CK.int IntKind.u64, CK.int IntKind.u64, CK.int IntKind.u64, CK.int IntKind.u64, CK.int IntKind.u64, CK.int IntKind.u64, CK.int IntKind.u64, CK.int IntKind.u64, CK.int IntKind.u64, CK.int IntKind.u64] = true ∨ ∀ (i : Nat), i < m → rowOb [CK.int IntKind.u64, CK.int IntKind.u64, CK.int IntKind.u64, CK.int IntKind.u64, CK.int IntKind.u64, CK.int IntKind.u64, CK.int IntKind.u64, CK.int IntKind.u64, CK.int IntKind.u64, CK.int IntKind.u64] 0 (f i) (f i),
 true = true,
 mn ≤ mn,
 fe = fe ∧ plainSh [CK.int IntKind.i64, CK.int IntKind.u32, CK.bool, CK.int IntKind.u64, CK.int IntKind.u64, CK.int IntKind.u64] = true ∨ ∀ (i : Nat), i < mn → rowOb [CK.int IntKind.i64, CK.int IntKind.u32, CK.bool, CK.int IntKind.u64, CK.int IntKind.u64, CK.int IntKind.u64] 0 (fe i) (fe i),
 false = false,
 L.length ≤ L.length,
 rfF L = rfF L ∧ plainSh rSh = true ∨ ∀ (i : Nat), i < L.length → rowOb rSh 0 (rfF L i) (rfF L i),
 decide (Int.ofNat ii < Int.ofNat L.length) = false]) := by kernel_rfl
theorem hai_1 (m : Nat) (f : Nat → Nat → AV) (mn : Nat) (fe : Nat → Nat → AV) (L : List K2) : castSt ((haU m f mn fe L).hp) [] (haU m f mn fe L) (haT m f mn fe L 0) =
 some ([(0 : Nat) = 0,
 m = m,
 (none : Option Nat) = none,
 (0 : Nat) = 0,
 mn = mn,
 (none : Option Nat) = none,
 (0 : Nat) = 0,
 (0 : Nat) = 0,
 (0 : Nat) = 0,
 L.length = L.length,
 some L.length = some L.length,
 (0 : Int) = 0,
 (0 : Nat) = 0,
 m = m,
 (none : Option Nat) = none,
 true = true,
 (1 : Nat) ≤ (1 : Nat),
 tabF tab = tabF tab ∧ plainSh (List.map kindOfV tab) = true ∨ ∀ (i : Nat), i < 1 → rowOb (List.map kindOfV tab) 0 (tabF tab i) (tabF tab i),
 true = true,
 m ≤ m,
 f = f ∧ plainSh [CK.int IntKind.u64, CK.int IntKind.u64, CK.int IntKind.u64, CK.int IntKind.u64, CK.int IntKind.u64, CK.int IntKind.u64, CK.int IntKind.u64, CK.int IntKind.u64, CK.int IntKind.u64, CK.int IntKind.u64] = true ∨ ∀ (i : Nat), i < m → rowOb [CK.int IntKind.u64, CK.int IntKind.u64, CK.int IntKind.u64, CK.int IntKind.u64, CK.int IntKind.u64, CK.int IntKind.u64, CK.int IntKind.u64, CK.int IntKind.u64, CK.int IntKind.u64, CK.int IntKind.u64] 0 (f i) (f i),
 true = true,
 mn ≤ mn,
 fe = fe ∧ plainSh [CK.int IntKind.i64, CK.int IntKind.u32, CK.bool, CK.int IntKind.u64, CK.int IntKind.u64, CK.int IntKind.u64] = true ∨ ∀ (i : Nat), i < mn → rowOb [CK.int IntKind.i64, CK.int IntKind.u32, CK.bool, CK.int IntKind.u64, CK.int IntKind.u64, CK.int IntKind.u64] 0 (fe i) (fe i),
 false = false,
 L.length ≤ L.length,
 rfF L = rfF L ∧ plainSh rSh = true ∨ ∀ (i : Nat), i < L.length → rowOb rSh 0 (rfF L i) (rfF L i)]) := by kernel_rfl
theorem ha_lp (m : Nat) (f : Nat → Nat → AV) (mn : Nat) (fe : Nat → Nat → AV) (L : List K2) (hN : L.length ≤ 1000) (hm : m ≤ 300) (hf : ∀ i, i < m → ∀ j, 0 ≤ avInt (f (0 + i) j) ∧ avInt (f (0 + i) j) < 18446744073709551616) (hL : L = hlF (hM f m)) : haLP m f mn fe L := by
  refine loop_rule EHw_ok (I := Nat) (fun i => haT m f mn fe L i) (fun i => L.length - i) (fun i => i ≤ L.length) ?_ (fun ii hi => ?_)
  ·
    refine ⟨0, [], _, Nat.zero_le _, hai_1 .., (ob_cons rfl (ob_cons rfl (ob_cons rfl (ob_cons rfl (ob_cons rfl (ob_cons rfl (ob_cons rfl (ob_cons rfl (ob_cons rfl (ob_cons rfl (ob_cons rfl (ob_cons rfl (ob_cons rfl (ob_cons rfl (ob_cons rfl (ob_cons rfl (ob_cons (Nat.le_refl _) (ob_cons (.inl ⟨rfl, rfl⟩) (ob_cons rfl (ob_cons (Nat.le_refl _) (ob_cons (.inl ⟨rfl, rfl⟩) (ob_cons rfl (ob_cons (Nat.le_refl _) (ob_cons (.inl ⟨rfl, rfl⟩) (ob_cons rfl (ob_cons (Nat.le_refl _) (ob_cons (.inl ⟨rfl, rfl⟩) ob_nil)))))))))))))))))))))))))))⟩
  have hi : ii ≤ L.length := hi
  have hmy : ii < L.length → (mget (hM f m) [avInt (rfF L (0 + ii) 0), avInt (rfF L (0 + ii) 1), 0] == 0) = false := fun h => ha_may hL hm h
  have hlt := fun (h0 : 0 < ii) (h : ii < L.length) => ha_lt hL hm h0 h (by omega)
  cases h1 : (decide (Int.ofNat ii < Int.ofNat L.length)) with
  | true =>
    have g1 := of_decide_eq_true h1
    try simp only [Int.ofNat_eq_natCast, ge_iff_le, gt_iff_lt, Int.not_lt, Int.not_le] at g1
    cases h2 : (decide (Int.ofNat ii > 0)) with
    | true =>
      have g2 := of_decide_eq_true h2
      try simp only [Int.ofNat_eq_natCast, ge_iff_le, gt_iff_lt, Int.not_lt, Int.not_le] at g2
      cases h3 : (avInt (rfF L (0 + (IntKind.i64.wrap (Int.ofNat ii - 1)).toNat) 0) == avInt (rfF L (0 + ii) 0)) with
      | true =>
        refine round_norm (s0 := haU m f mn fe L) (T := fun i => haT m f mn fe L i) (i := ii) (ii + 1) (har_3 ..) (ob_cons rfl (ob_cons rfl (ob_cons rfl (ob_cons rfl (ob_cons rfl (ob_cons rfl (ob_cons rfl (ob_cons rfl (ob_cons rfl (ob_cons rfl (ob_cons rfl (ob_cons ?_ (ob_cons rfl (ob_cons rfl (ob_cons rfl (ob_cons rfl (ob_cons (Nat.le_refl _) (ob_cons (.inl ⟨rfl, rfl⟩) (ob_cons rfl (ob_cons (Nat.le_refl _) (ob_cons (.inl ⟨rfl, rfl⟩) (ob_cons rfl (ob_cons (Nat.le_refl _) (ob_cons (.inl ⟨rfl, rfl⟩) (ob_cons rfl (ob_cons (Nat.le_refl _) (ob_cons (.inl ⟨rfl, rfl⟩) (ob_cons ?_ (ob_cons ?_ (ob_cons ?_ (ob_cons ?_ (ob_cons ?_ (ob_cons h3 (ob_cons ?_ (ob_cons ?_ (ob_cons ?_ (ob_cons ?_ (ob_cons ?_ (ob_cons ?_ (ob_cons ?_ (ob_cons ?_ (ob_cons ?_ (ob_cons h2 (ob_cons ?_ (ob_cons rfl (ob_cons rfl (ob_cons ?_ (ob_cons ?_ (ob_cons ?_ (ob_cons ?_ (ob_cons ?_ (ob_cons ?_ (ob_cons ?_ (ob_cons h1 ob_nil)))))))))))))))))))))))))))))))))))))))))))))))))))))) (by show ii + 1 ≤ L.length; omega) (by show L.length - (ii + 1) < L.length - ii; omega)
        ·
          first | with_reducible assumption | exact rfl | exact tabIs_self _ | exact rf_b .. | exact hmy (by omega) | exact (hlt (by omega) (by omega)).1 | exact (hlt (by omega) (by omega)).2.1 | exact (hlt (by omega) (by omega)).2.2.1 | exact (hlt (by omega) (by omega)).2.2.2 (by assumption) | exact .inl ⟨rfl, rfl⟩ | exact fun _ => rfl | (apply Nat.ble_eq_true_of_le; omega) | (simp [Nat.blt_eq]; omega) | (simp; done) | (simp; omega) | omega | exact wrap_nat64 _ (by simp; omega) (by simp; omega)
        ·
          first | with_reducible assumption | exact rfl | exact tabIs_self _ | exact rf_b .. | exact hmy (by omega) | exact (hlt (by omega) (by omega)).1 | exact (hlt (by omega) (by omega)).2.1 | exact (hlt (by omega) (by omega)).2.2.1 | exact (hlt (by omega) (by omega)).2.2.2 (by assumption) | exact .inl ⟨rfl, rfl⟩ | exact fun _ => rfl | (apply Nat.ble_eq_true_of_le; omega) | (simp [Nat.blt_eq]; omega) | (simp; done) | (simp; omega) | omega | (apply Nat.ble_eq_true_of_le; omega) | (simp [Nat.blt_eq]; omega)
        ·
          first | with_reducible assumption | exact rfl | exact tabIs_self _ | exact rf_b .. | exact hmy (by omega) | exact (hlt (by omega) (by omega)).1 | exact (hlt (by omega) (by omega)).2.1 | exact (hlt (by omega) (by omega)).2.2.1 | exact (hlt (by omega) (by omega)).2.2.2 (by assumption) | exact .inl ⟨rfl, rfl⟩ | exact fun _ => rfl | (apply Nat.ble_eq_true_of_le; omega) | (simp [Nat.blt_eq]; omega) | (simp; done) | (simp; omega) | omega | (apply Nat.ble_eq_true_of_le; omega) | (simp [Nat.blt_eq]; omega)
        ·
          first | with_reducible assumption | exact rfl | exact tabIs_self _ | exact rf_b .. | exact hmy (by omega) | exact (hlt (by omega) (by omega)).1 | exact (hlt (by omega) (by omega)).2.1 | exact (hlt (by omega) (by omega)).2.2.1 | exact (hlt (by omega) (by omega)).2.2.2 (by assumption) | exact .inl ⟨rfl, rfl⟩ | exact fun _ => rfl | (apply Nat.ble_eq_true_of_le; omega) | (simp [Nat.blt_eq]; omega) | (simp; done) | (simp; omega) | omega | (apply Nat.ble_eq_true_of_le; omega) | (simp [Nat.blt_eq]; omega)
        ·
          first | with_reducible assumption | exact rfl | exact tabIs_self _ | exact rf_b .. | exact hmy (by omega) | exact (hlt (by omega) (by omega)).1 | exact (hlt (by omega) (by omega)).2.1 | exact (hlt (by omega) (by omega)).2.2.1 | exact (hlt (by omega) (by omega)).2.2.2 (by assumption) | exact .inl ⟨rfl, rfl⟩ | exact fun _ => rfl | (apply Nat.ble_eq_true_of_le; omega) | (simp [Nat.blt_eq]; omega) | (simp; done) | (simp; omega) | omega | (apply Nat.ble_eq_true_of_le; omega) | (simp [Nat.blt_eq]; omega)
        ·
          first | with_reducible assumption | exact rfl | exact tabIs_self _ | exact rf_b .. | exact hmy (by omega) | exact (hlt (by omega) (by omega)).1 | exact (hlt (by omega) (by omega)).2.1 | exact (hlt (by omega) (by omega)).2.2.1 | exact (hlt (by omega) (by omega)).2.2.2 (by assumption) | exact .inl ⟨rfl, rfl⟩ | exact fun _ => rfl | (apply Nat.ble_eq_true_of_le; omega) | (simp [Nat.blt_eq]; omega) | (simp; done) | (simp; omega) | omega | (apply Nat.ble_eq_true_of_le; omega) | (simp [Nat.blt_eq]; omega)
        ·
          first | with_reducible assumption | exact rfl | exact tabIs_self _ | exact rf_b .. | exact hmy (by omega) | exact (hlt (by omega) (by omega)).1 | exact (hlt (by omega) (by omega)).2.1 | exact (hlt (by omega) (by omega)).2.2.1 | exact (hlt (by omega) (by omega)).2.2.2 (by assumption) | exact .inl ⟨rfl, rfl⟩ | exact fun _ => rfl | (apply Nat.ble_eq_true_of_le; omega) | (simp [Nat.blt_eq]; omega) | (simp; done) | (simp; omega) | omega | (apply Nat.ble_eq_true_of_le; omega) | (simp [Nat.blt_eq]; omega)
        ·
          first | with_reducible assumption | exact rfl | exact tabIs_self _ | exact rf_b .. | exact hmy (by omega) | exact (hlt (by omega) (by omega)).1 | exact (hlt (by omega) (by omega)).2.1 | exact (hlt (by omega) (by omega)).2.2.1 | exact (hlt (by omega) (by omega)).2.2.2 (by assumption) | exact .inl ⟨rfl, rfl⟩ | exact fun _ => rfl | (apply Nat.ble_eq_true_of_le; omega) | (simp [Nat.blt_eq]; omega) | (simp; done) | (simp; omega) | omega | (apply Nat.ble_eq_true_of_le; omega) | (simp [Nat.blt_eq]; omega)
        ·
          first | with_reducible assumption | exact rfl | exact tabIs_self _ | exact rf_b .. | exact hmy (by omega) | exact (hlt (by omega) (by omega)).1 | exact (hlt (by omega) (by omega)).2.1 | exact (hlt (by omega) (by omega)).2.2.1 | exact (hlt (by omega) (by omega)).2.2.2 (by assumption) | exact .inl ⟨rfl, rfl⟩ | exact fun _ => rfl | (apply Nat.ble_eq_true_of_le; omega) | (simp [Nat.blt_eq]; omega) | (simp; done) | (simp; omega) | omega | (apply Nat.ble_eq_true_of_le; omega) | (simp [Nat.blt_eq]; omega)
        ·
          first | with_reducible assumption | exact rfl | exact tabIs_self _ | exact rf_b .. | exact hmy (by omega) | exact (hlt (by omega) (by omega)).1 | exact (hlt (by omega) (by omega)).2.1 | exact (hlt (by omega) (by omega)).2.2.1 | exact (hlt (by omega) (by omega)).2.2.2 (by assumption) | exact .inl ⟨rfl, rfl⟩ | exact fun _ => rfl | (apply Nat.ble_eq_true_of_le; omega) | (simp [Nat.blt_eq]; omega) | (simp; done) | (simp; omega) | omega | (apply Nat.ble_eq_true_of_le; omega) | (simp [Nat.blt_eq]; omega)
        ·
          first | with_reducible assumption | exact rfl | exact tabIs_self _ | exact rf_b .. | exact hmy (by omega) | exact (hlt (by omega) (by omega)).1 | exact (hlt (by omega) (by omega)).2.1 | exact (hlt (by omega) (by omega)).2.2.1 | exact (hlt (by omega) (by omega)).2.2.2 (by assumption) | exact .inl ⟨rfl, rfl⟩ | exact fun _ => rfl | (apply Nat.ble_eq_true_of_le; omega) | (simp [Nat.blt_eq]; omega) | (simp; done) | (simp; omega) | omega | (apply Nat.ble_eq_true_of_le; omega) | (simp [Nat.blt_eq]; omega)
        ·
          first | with_reducible assumption | exact rfl | exact tabIs_self _ | exact rf_b .. | exact hmy (by omega) | exact (hlt (by omega) (by omega)).1 | exact (hlt (by omega) (by omega)).2.1 | exact (hlt (by omega) (by omega)).2.2.1 | exact (hlt (by omega) (by omega)).2.2.2 (by assumption) | exact .inl ⟨rfl, rfl⟩ | exact fun _ => rfl | (apply Nat.ble_eq_true_of_le; omega) | (simp [Nat.blt_eq]; omega) | (simp; done) | (simp; omega) | omega | (apply Nat.ble_eq_true_of_le; omega) | (simp [Nat.blt_eq]; omega)
        ·
          first | with_reducible assumption | exact rfl | exact tabIs_self _ | exact rf_b .. | exact hmy (by omega) | exact (hlt (by omega) (by omega)).1 | exact (hlt (by omega) (by omega)).2.1 | exact (hlt (by omega) (by omega)).2.2.1 | exact (hlt (by omega) (by omega)).2.2.2 (by assumption) | exact .inl ⟨rfl, rfl⟩ | exact fun _ => rfl | (apply Nat.ble_eq_true_of_le; omega) | (simp [Nat.blt_eq]; omega) | (simp; done) | (simp; omega) | omega | (apply Nat.ble_eq_true_of_le; omega) | (simp [Nat.blt_eq]; omega)
        ·
          first | with_reducible assumption | exact rfl | exact tabIs_self _ | exact rf_b .. | exact hmy (by omega) | exact (hlt (by omega) (by omega)).1 | exact (hlt (by omega) (by omega)).2.1 | exact (hlt (by omega) (by omega)).2.2.1 | exact (hlt (by omega) (by omega)).2.2.2 (by assumption) | exact .inl ⟨rfl, rfl⟩ | exact fun _ => rfl | (apply Nat.ble_eq_true_of_le; omega) | (simp [Nat.blt_eq]; omega) | (simp; done) | (simp; omega) | omega | (apply Nat.ble_eq_true_of_le; omega) | (simp [Nat.blt_eq]; omega)
        ·
          first | with_reducible assumption | exact rfl | exact tabIs_self _ | exact rf_b .. | exact hmy (by omega) | exact (hlt (by omega) (by omega)).1 | exact (hlt (by omega) (by omega)).2.1 | exact (hlt (by omega) (by omega)).2.2.1 | exact (hlt (by omega) (by omega)).2.2.2 (by assumption) | exact .inl ⟨rfl, rfl⟩ | exact fun _ => rfl | (apply Nat.ble_eq_true_of_le; omega) | (simp [Nat.blt_eq]; omega) | (simp; done) | (simp; omega) | omega | (apply Nat.ble_eq_true_of_le; omega) | (simp [Nat.blt_eq]; omega)
        ·
          first | with_reducible assumption | exact rfl | exact tabIs_self _ | exact rf_b .. | exact hmy (by omega) | exact (hlt (by omega) (by omega)).1 | exact (hlt (by omega) (by omega)).2.1 | exact (hlt (by omega) (by omega)).2.2.1 | exact (hlt (by omega) (by omega)).2.2.2 (by assumption) | exact .inl ⟨rfl, rfl⟩ | exact fun _ => rfl | (apply Nat.ble_eq_true_of_le; omega) | (simp [Nat.blt_eq]; omega) | (simp; done) | (simp; omega) | omega | (apply Nat.ble_eq_true_of_le; omega) | (simp [Nat.blt_eq]; omega)
        ·
          first | with_reducible assumption | exact rfl | exact tabIs_self _ | exact rf_b .. | exact hmy (by omega) | exact (hlt (by omega) (by omega)).1 | exact (hlt (by omega) (by omega)).2.1 | exact (hlt (by omega) (by omega)).2.2.1 | exact (hlt (by omega) (by omega)).2.2.2 (by assumption) | exact .inl ⟨rfl, rfl⟩ | exact fun _ => rfl | (apply Nat.ble_eq_true_of_le; omega) | (simp [Nat.blt_eq]; omega) | (simp; done) | (simp; omega) | omega | exact Nat.le_refl _ | omega
        ·
          first | with_reducible assumption | exact rfl | exact tabIs_self _ | exact rf_b .. | exact hmy (by omega) | exact (hlt (by omega) (by omega)).1 | exact (hlt (by omega) (by omega)).2.1 | exact (hlt (by omega) (by omega)).2.2.1 | exact (hlt (by omega) (by omega)).2.2.2 (by assumption) | exact .inl ⟨rfl, rfl⟩ | exact fun _ => rfl | (apply Nat.ble_eq_true_of_le; omega) | (simp [Nat.blt_eq]; omega) | (simp; done) | (simp; omega) | omega | exact fun _ => rfl
        ·
          first | with_reducible assumption | exact rfl | exact tabIs_self _ | exact rf_b .. | exact hmy (by omega) | exact (hlt (by omega) (by omega)).1 | exact (hlt (by omega) (by omega)).2.1 | exact (hlt (by omega) (by omega)).2.2.1 | exact (hlt (by omega) (by omega)).2.2.2 (by assumption) | exact .inl ⟨rfl, rfl⟩ | exact fun _ => rfl | (apply Nat.ble_eq_true_of_le; omega) | (simp [Nat.blt_eq]; omega) | (simp; done) | (simp; omega) | omega | (apply Nat.ble_eq_true_of_le; omega) | (simp [Nat.blt_eq]; omega)
        ·
          first | with_reducible assumption | exact rfl | exact tabIs_self _ | exact rf_b .. | exact hmy (by omega) | exact (hlt (by omega) (by omega)).1 | exact (hlt (by omega) (by omega)).2.1 | exact (hlt (by omega) (by omega)).2.2.1 | exact (hlt (by omega) (by omega)).2.2.2 (by assumption) | exact .inl ⟨rfl, rfl⟩ | exact fun _ => rfl | (apply Nat.ble_eq_true_of_le; omega) | (simp [Nat.blt_eq]; omega) | (simp; done) | (simp; omega) | omega | (apply Nat.ble_eq_true_of_le; omega) | (simp [Nat.blt_eq]; omega)
        ·
          first | with_reducible assumption | exact rfl | exact tabIs_self _ | exact rf_b .. | exact hmy (by omega) | exact (hlt (by omega) (by omega)).1 | exact (hlt (by omega) (by omega)).2.1 | exact (hlt (by omega) (by omega)).2.2.1 | exact (hlt (by omega) (by omega)).2.2.2 (by assumption) | exact .inl ⟨rfl, rfl⟩ | exact fun _ => rfl | (apply Nat.ble_eq_true_of_le; omega) | (simp [Nat.blt_eq]; omega) | (simp; done) | (simp; omega) | omega | (apply Nat.ble_eq_true_of_le; omega) | (simp [Nat.blt_eq]; omega)
        ·
          first | with_reducible assumption | exact rfl | exact tabIs_self _ | exact rf_b .. | exact hmy (by omega) | exact (hlt (by omega) (by omega)).1 | exact (hlt (by omega) (by omega)).2.1 | exact (hlt (by omega) (by omega)).2.2.1 | exact (hlt (by omega) (by omega)).2.2.2 (by assumption) | exact .inl ⟨rfl, rfl⟩ | exact fun _ => rfl | (apply Nat.ble_eq_true_of_le; omega) | (simp [Nat.blt_eq]; omega) | (simp; done) | (simp; omega) | omega | (apply Nat.ble_eq_true_of_le; omega) | (simp [Nat.blt_eq]; omega)
        ·
          first | with_reducible assumption | exact rfl | exact tabIs_self _ | exact rf_b .. | exact hmy (by omega) | exact (hlt (by omega) (by omega)).1 | exact (hlt (by omega) (by omega)).2.1 | exact (hlt (by omega) (by omega)).2.2.1 | exact (hlt (by omega) (by omega)).2.2.2 (by assumption) | exact .inl ⟨rfl, rfl⟩ | exact fun _ => rfl | (apply Nat.ble_eq_true_of_le; omega) | (simp [Nat.blt_eq]; omega) | (simp; done) | (simp; omega) | omega | (apply Nat.ble_eq_true_of_le; omega) | (simp [Nat.blt_eq]; omega)
      | false =>
        refine round_norm (s0 := haU m f mn fe L) (T := fun i => haT m f mn fe L i) (i := ii) (ii + 1) (har_2 ..) (ob_cons rfl (ob_cons rfl (ob_cons rfl (ob_cons rfl (ob_cons rfl (ob_cons rfl (ob_cons rfl (ob_cons rfl (ob_cons rfl (ob_cons rfl (ob_cons rfl (ob_cons ?_ (ob_cons rfl (ob_cons rfl (ob_cons rfl (ob_cons rfl (ob_cons (Nat.le_refl _) (ob_cons (.inl ⟨rfl, rfl⟩) (ob_cons rfl (ob_cons (Nat.le_refl _) (ob_cons (.inl ⟨rfl, rfl⟩) (ob_cons rfl (ob_cons (Nat.le_refl _) (ob_cons (.inl ⟨rfl, rfl⟩) (ob_cons rfl (ob_cons (Nat.le_refl _) (ob_cons (.inl ⟨rfl, rfl⟩) (ob_cons h3 (ob_cons ?_ (ob_cons ?_ (ob_cons ?_ (ob_cons ?_ (ob_cons ?_ (ob_cons ?_ (ob_cons ?_ (ob_cons ?_ (ob_cons ?_ (ob_cons h2 (ob_cons ?_ (ob_cons rfl (ob_cons rfl (ob_cons ?_ (ob_cons ?_ (ob_cons ?_ (ob_cons ?_ (ob_cons ?_ (ob_cons ?_ (ob_cons ?_ (ob_cons h1 ob_nil))))))))))))))))))))))))))))))))))))))))))))))))) (by show ii + 1 ≤ L.length; omega) (by show L.length - (ii + 1) < L.length - ii; omega)
        ·
          first | with_reducible assumption | exact rfl | exact tabIs_self _ | exact rf_b .. | exact hmy (by omega) | exact (hlt (by omega) (by omega)).1 | exact (hlt (by omega) (by omega)).2.1 | exact (hlt (by omega) (by omega)).2.2.1 | exact (hlt (by omega) (by omega)).2.2.2 (by assumption) | exact .inl ⟨rfl, rfl⟩ | exact fun _ => rfl | (apply Nat.ble_eq_true_of_le; omega) | (simp [Nat.blt_eq]; omega) | (simp; done) | (simp; omega) | omega | exact wrap_nat64 _ (by simp; omega) (by simp; omega)
        ·
          first | with_reducible assumption | exact rfl | exact tabIs_self _ | exact rf_b .. | exact hmy (by omega) | exact (hlt (by omega) (by omega)).1 | exact (hlt (by omega) (by omega)).2.1 | exact (hlt (by omega) (by omega)).2.2.1 | exact (hlt (by omega) (by omega)).2.2.2 (by assumption) | exact .inl ⟨rfl, rfl⟩ | exact fun _ => rfl | (apply Nat.ble_eq_true_of_le; omega) | (simp [Nat.blt_eq]; omega) | (simp; done) | (simp; omega) | omega | (apply Nat.ble_eq_true_of_le; omega) | (simp [Nat.blt_eq]; omega)
        ·
          first | with_reducible assumption | exact rfl | exact tabIs_self _ | exact rf_b .. | exact hmy (by omega) | exact (hlt (by omega) (by omega)).1 | exact (hlt (by omega) (by omega)).2.1 | exact (hlt (by omega) (by omega)).2.2.1 | exact (hlt (by omega) (by omega)).2.2.2 (by assumption) | exact .inl ⟨rfl, rfl⟩ | exact fun _ => rfl | (apply Nat.ble_eq_true_of_le; omega) | (simp [Nat.blt_eq]; omega) | (simp; done) | (simp; omega) | omega | (apply Nat.ble_eq_true_of_le; omega) | (simp [Nat.blt_eq]; omega)
        ·
          first | with_reducible assumption | exact rfl | exact tabIs_self _ | exact rf_b .. | exact hmy (by omega) | exact (hlt (by omega) (by omega)).1 | exact (hlt (by omega) (by omega)).2.1 | exact (hlt (by omega) (by omega)).2.2.1 | exact (hlt (by omega) (by omega)).2.2.2 (by assumption) | exact .inl ⟨rfl, rfl⟩ | exact fun _ => rfl | (apply Nat.ble_eq_true_of_le; omega) | (simp [Nat.blt_eq]; omega) | (simp; done) | (simp; omega) | omega | (apply Nat.ble_eq_true_of_le; omega) | (simp [Nat.blt_eq]; omega)
        ·
          first | with_reducible assumption | exact rfl | exact tabIs_self _ | exact rf_b .. | exact hmy (by omega) | exact (hlt (by omega) (by omega)).1 | exact (hlt (by omega) (by omega)).2.1 | exact (hlt (by omega) (by omega)).2.2.1 | exact (hlt (by omega) (by omega)).2.2.2 (by assumption) | exact .inl ⟨rfl, rfl⟩ | exact fun _ => rfl | (apply Nat.ble_eq_true_of_le; omega) | (simp [Nat.blt_eq]; omega) | (simp; done) | (simp; omega) | omega | (apply Nat.ble_eq_true_of_le; omega) | (simp [Nat.blt_eq]; omega)
        ·
          first | with_reducible assumption | exact rfl | exact tabIs_self _ | exact rf_b .. | exact hmy (by omega) | exact (hlt (by omega) (by omega)).1 | exact (hlt (by omega) (by omega)).2.1 | exact (hlt (by omega) (by omega)).2.2.1 | exact (hlt (by omega) (by omega)).2.2.2 (by assumption) | exact .inl ⟨rfl, rfl⟩ | exact fun _ => rfl | (apply Nat.ble_eq_true_of_le; omega) | (simp [Nat.blt_eq]; omega) | (simp; done) | (simp; omega) | omega | (apply Nat.ble_eq_true_of_le; omega) | (simp [Nat.blt_eq]; omega)
        ·
          first | with_reducible assumption | exact rfl | exact tabIs_self _ | exact rf_b .. | exact hmy (by omega) | exact (hlt (by omega) (by omega)).1 | exact (hlt (by omega) (by omega)).2.1 | exact (hlt (by omega) (by omega)).2.2.1 | exact (hlt (by omega) (by omega)).2.2.2 (by assumption) | exact .inl ⟨rfl, rfl⟩ | exact fun _ => rfl | (apply Nat.ble_eq_true_of_le; omega) | (simp [Nat.blt_eq]; omega) | (simp; done) | (simp; omega) | omega | (apply Nat.ble_eq_true_of_le; omega) | (simp [Nat.blt_eq]; omega)
        ·
          first | with_reducible assumption | exact rfl | exact tabIs_self _ | exact rf_b .. | exact hmy (by omega) | exact (hlt (by omega) (by omega)).1 | exact (hlt (by omega) (by omega)).2.1 | exact (hlt (by omega) (by omega)).2.2.1 | exact (hlt (by omega) (by omega)).2.2.2 (by assumption) | exact .inl ⟨rfl, rfl⟩ | exact fun _ => rfl | (apply Nat.ble_eq_true_of_le; omega) | (simp [Nat.blt_eq]; omega) | (simp; done) | (simp; omega) | omega | (apply Nat.ble_eq_true_of_le; omega) | (simp [Nat.blt_eq]; omega)
        ·
          first | with_reducible assumption | exact rfl | exact tabIs_self _ | exact rf_b .. | exact hmy (by omega) | exact (hlt (by omega) (by omega)).1 | exact (hlt (by omega) (by omega)).2.1 | exact (hlt (by omega) (by omega)).2.2.1 | exact (hlt (by omega) (by omega)).2.2.2 (by assumption) | exact .inl ⟨rfl, rfl⟩ | exact fun _ => rfl | (apply Nat.ble_eq_true_of_le; omega) | (simp [Nat.blt_eq]; omega) | (simp; done) | (simp; omega) | omega | (apply Nat.ble_eq_true_of_le; omega) | (simp [Nat.blt_eq]; omega)
        ·
          first | with_reducible assumption | exact rfl | exact tabIs_self _ | exact rf_b .. | exact hmy (by omega) | exact (hlt (by omega) (by omega)).1 | exact (hlt (by omega) (by omega)).2.1 | exact (hlt (by omega) (by omega)).2.2.1 | exact (hlt (by omega) (by omega)).2.2.2 (by assumption) | exact .inl ⟨rfl, rfl⟩ | exact fun _ => rfl | (apply Nat.ble_eq_true_of_le; omega) | (simp [Nat.blt_eq]; omega) | (simp; done) | (simp; omega) | omega | (apply Nat.ble_eq_true_of_le; omega) | (simp [Nat.blt_eq]; omega)
        ·
          first | with_reducible assumption | exact rfl | exact tabIs_self _ | exact rf_b .. | exact hmy (by omega) | exact (hlt (by omega) (by omega)).1 | exact (hlt (by omega) (by omega)).2.1 | exact (hlt (by omega) (by omega)).2.2.1 | exact (hlt (by omega) (by omega)).2.2.2 (by assumption) | exact .inl ⟨rfl, rfl⟩ | exact fun _ => rfl | (apply Nat.ble_eq_true_of_le; omega) | (simp [Nat.blt_eq]; omega) | (simp; done) | (simp; omega) | omega | (apply Nat.ble_eq_true_of_le; omega) | (simp [Nat.blt_eq]; omega)
        ·
          first | with_reducible assumption | exact rfl | exact tabIs_self _ | exact rf_b .. | exact hmy (by omega) | exact (hlt (by omega) (by omega)).1 | exact (hlt (by omega) (by omega)).2.1 | exact (hlt (by omega) (by omega)).2.2.1 | exact (hlt (by omega) (by omega)).2.2.2 (by assumption) | exact .inl ⟨rfl, rfl⟩ | exact fun _ => rfl | (apply Nat.ble_eq_true_of_le; omega) | (simp [Nat.blt_eq]; omega) | (simp; done) | (simp; omega) | omega | exact Nat.le_refl _ | omega
        ·
          first | with_reducible assumption | exact rfl | exact tabIs_self _ | exact rf_b .. | exact hmy (by omega) | exact (hlt (by omega) (by omega)).1 | exact (hlt (by omega) (by omega)).2.1 | exact (hlt (by omega) (by omega)).2.2.1 | exact (hlt (by omega) (by omega)).2.2.2 (by assumption) | exact .inl ⟨rfl, rfl⟩ | exact fun _ => rfl | (apply Nat.ble_eq_true_of_le; omega) | (simp [Nat.blt_eq]; omega) | (simp; done) | (simp; omega) | omega | exact fun _ => rfl
        ·
          first | with_reducible assumption | exact rfl | exact tabIs_self _ | exact rf_b .. | exact hmy (by omega) | exact (hlt (by omega) (by omega)).1 | exact (hlt (by omega) (by omega)).2.1 | exact (hlt (by omega) (by omega)).2.2.1 | exact (hlt (by omega) (by omega)).2.2.2 (by assumption) | exact .inl ⟨rfl, rfl⟩ | exact fun _ => rfl | (apply Nat.ble_eq_true_of_le; omega) | (simp [Nat.blt_eq]; omega) | (simp; done) | (simp; omega) | omega | (apply Nat.ble_eq_true_of_le; omega) | (simp [Nat.blt_eq]; omega)
        ·
          first | with_reducible assumption | exact rfl | exact tabIs_self _ | exact rf_b .. | exact hmy (by omega) | exact (hlt (by omega) (by omega)).1 | exact (hlt (by omega) (by omega)).2.1 | exact (hlt (by omega) (by omega)).2.2.1 | exact (hlt (by omega) (by omega)).2.2.2 (by assumption) | exact .inl ⟨rfl, rfl⟩ | exact fun _ => rfl | (apply Nat.ble_eq_true_of_le; omega) | (simp [Nat.blt_eq]; omega) | (simp; done) | (simp; omega) | omega | (apply Nat.ble_eq_true_of_le; omega) | (simp [Nat.blt_eq]; omega)
        ·
          first | with_reducible assumption | exact rfl | exact tabIs_self _ | exact rf_b .. | exact hmy (by omega) | exact (hlt (by omega) (by omega)).1 | exact (hlt (by omega) (by omega)).2.1 | exact (hlt (by omega) (by omega)).2.2.1 | exact (hlt (by omega) (by omega)).2.2.2 (by assumption) | exact .inl ⟨rfl, rfl⟩ | exact fun _ => rfl | (apply Nat.ble_eq_true_of_le; omega) | (simp [Nat.blt_eq]; omega) | (simp; done) | (simp; omega) | omega | (apply Nat.ble_eq_true_of_le; omega) | (simp [Nat.blt_eq]; omega)
        ·
          first | with_reducible assumption | exact rfl | exact tabIs_self _ | exact rf_b .. | exact hmy (by omega) | exact (hlt (by omega) (by omega)).1 | exact (hlt (by omega) (by omega)).2.1 | exact (hlt (by omega) (by omega)).2.2.1 | exact (hlt (by omega) (by omega)).2.2.2 (by assumption) | exact .inl ⟨rfl, rfl⟩ | exact fun _ => rfl | (apply Nat.ble_eq_true_of_le; omega) | (simp [Nat.blt_eq]; omega) | (simp; done) | (simp; omega) | omega | (apply Nat.ble_eq_true_of_le; omega) | (simp [Nat.blt_eq]; omega)
        ·
          first | with_reducible assumption | exact rfl | exact tabIs_self _ | exact rf_b .. | exact hmy (by omega) | exact (hlt (by omega) (by omega)).1 | exact (hlt (by omega) (by omega)).2.1 | exact (hlt (by omega) (by omega)).2.2.1 | exact (hlt (by omega) (by omega)).2.2.2 (by assumption) | exact .inl ⟨rfl, rfl⟩ | exact fun _ => rfl | (apply Nat.ble_eq_true_of_le; omega) | (simp [Nat.blt_eq]; omega) | (simp; done) | (simp; omega) | omega | (apply Nat.ble_eq_true_of_le; omega) | (simp [Nat.blt_eq]; omega)
    | false =>
      have g2 := of_decide_eq_false h2
      try simp only [Int.ofNat_eq_natCast, ge_iff_le, gt_iff_lt, Int.not_lt, Int.not_le] at g2
      refine round_norm (s0 := haU m f mn fe L) (T := fun i => haT m f mn fe L i) (i := ii) (ii + 1) (har_1 ..) (ob_cons rfl (ob_cons rfl (ob_cons rfl (ob_cons rfl (ob_cons rfl (ob_cons rfl (ob_cons rfl (ob_cons rfl (ob_cons rfl (ob_cons rfl (ob_cons rfl (ob_cons ?_ (ob_cons rfl (ob_cons rfl (ob_cons rfl (ob_cons rfl (ob_cons (Nat.le_refl _) (ob_cons (.inl ⟨rfl, rfl⟩) (ob_cons rfl (ob_cons (Nat.le_refl _) (ob_cons (.inl ⟨rfl, rfl⟩) (ob_cons rfl (ob_cons (Nat.le_refl _) (ob_cons (.inl ⟨rfl, rfl⟩) (ob_cons rfl (ob_cons (Nat.le_refl _) (ob_cons (.inl ⟨rfl, rfl⟩) (ob_cons h2 (ob_cons ?_ (ob_cons rfl (ob_cons rfl (ob_cons ?_ (ob_cons ?_ (ob_cons ?_ (ob_cons ?_ (ob_cons ?_ (ob_cons ?_ (ob_cons ?_ (ob_cons h1 ob_nil))))))))))))))))))))))))))))))))))))))) (by show ii + 1 ≤ L.length; omega) (by show L.length - (ii + 1) < L.length - ii; omega)
      ·
        first | with_reducible assumption | exact rfl | exact tabIs_self _ | exact rf_b .. | exact hmy (by omega) | exact (hlt (by omega) (by omega)).1 | exact (hlt (by omega) (by omega)).2.1 | exact (hlt (by omega) (by omega)).2.2.1 | exact (hlt (by omega) (by omega)).2.2.2 (by assumption) | exact .inl ⟨rfl, rfl⟩ | exact fun _ => rfl | (apply Nat.ble_eq_true_of_le; omega) | (simp [Nat.blt_eq]; omega) | (simp; done) | (simp; omega) | omega | exact wrap_nat64 _ (by simp; omega) (by simp; omega)
      ·
        first | with_reducible assumption | exact rfl | exact tabIs_self _ | exact rf_b .. | exact hmy (by omega) | exact (hlt (by omega) (by omega)).1 | exact (hlt (by omega) (by omega)).2.1 | exact (hlt (by omega) (by omega)).2.2.1 | exact (hlt (by omega) (by omega)).2.2.2 (by assumption) | exact .inl ⟨rfl, rfl⟩ | exact fun _ => rfl | (apply Nat.ble_eq_true_of_le; omega) | (simp [Nat.blt_eq]; omega) | (simp; done) | (simp; omega) | omega | (apply Nat.ble_eq_true_of_le; omega) | (simp [Nat.blt_eq]; omega)
      ·
        first | with_reducible assumption | exact rfl | exact tabIs_self _ | exact rf_b .. | exact hmy (by omega) | exact (hlt (by omega) (by omega)).1 | exact (hlt (by omega) (by omega)).2.1 | exact (hlt (by omega) (by omega)).2.2.1 | exact (hlt (by omega) (by omega)).2.2.2 (by assumption) | exact .inl ⟨rfl, rfl⟩ | exact fun _ => rfl | (apply Nat.ble_eq_true_of_le; omega) | (simp [Nat.blt_eq]; omega) | (simp; done) | (simp; omega) | omega | exact Nat.le_refl _ | omega
      ·
        first | with_reducible assumption | exact rfl | exact tabIs_self _ | exact rf_b .. | exact hmy (by omega) | exact (hlt (by omega) (by omega)).1 | exact (hlt (by omega) (by omega)).2.1 | exact (hlt (by omega) (by omega)).2.2.1 | exact (hlt (by omega) (by omega)).2.2.2 (by assumption) | exact .inl ⟨rfl, rfl⟩ | exact fun _ => rfl | (apply Nat.ble_eq_true_of_le; omega) | (simp [Nat.blt_eq]; omega) | (simp; done) | (simp; omega) | omega | exact fun _ => rfl
      ·
        first | with_reducible assumption | exact rfl | exact tabIs_self _ | exact rf_b .. | exact hmy (by omega) | exact (hlt (by omega) (by omega)).1 | exact (hlt (by omega) (by omega)).2.1 | exact (hlt (by omega) (by omega)).2.2.1 | exact (hlt (by omega) (by omega)).2.2.2 (by assumption) | exact .inl ⟨rfl, rfl⟩ | exact fun _ => rfl | (apply Nat.ble_eq_true_of_le; omega) | (simp [Nat.blt_eq]; omega) | (simp; done) | (simp; omega) | omega | (apply Nat.ble_eq_true_of_le; omega) | (simp [Nat.blt_eq]; omega)
      ·
        first | with_reducible assumption | exact rfl | exact tabIs_self _ | exact rf_b .. | exact hmy (by omega) | exact (hlt (by omega) (by omega)).1 | exact (hlt (by omega) (by omega)).2.1 | exact (hlt (by omega) (by omega)).2.2.1 | exact (hlt (by omega) (by omega)).2.2.2 (by assumption) | exact .inl ⟨rfl, rfl⟩ | exact fun _ => rfl | (apply Nat.ble_eq_true_of_le; omega) | (simp [Nat.blt_eq]; omega) | (simp; done) | (simp; omega) | omega | (apply Nat.ble_eq_true_of_le; omega) | (simp [Nat.blt_eq]; omega)
      ·
        first | with_reducible assumption | exact rfl | exact tabIs_self _ | exact rf_b .. | exact hmy (by omega) | exact (hlt (by omega) (by omega)).1 | exact (hlt (by omega) (by omega)).2.1 | exact (hlt (by omega) (by omega)).2.2.1 | exact (hlt (by omega) (by omega)).2.2.2 (by assumption) | exact .inl ⟨rfl, rfl⟩ | exact fun _ => rfl | (apply Nat.ble_eq_true_of_le; omega) | (simp [Nat.blt_eq]; omega) | (simp; done) | (simp; omega) | omega | (apply Nat.ble_eq_true_of_le; omega) | (simp [Nat.blt_eq]; omega)
      ·
        first | with_reducible assumption | exact rfl | exact tabIs_self _ | exact rf_b .. | exact hmy (by omega) | exact (hlt (by omega) (by omega)).1 | exact (hlt (by omega) (by omega)).2.1 | exact (hlt (by omega) (by omega)).2.2.1 | exact (hlt (by omega) (by omega)).2.2.2 (by assumption) | exact .inl ⟨rfl, rfl⟩ | exact fun _ => rfl | (apply Nat.ble_eq_true_of_le; omega) | (simp [Nat.blt_eq]; omega) | (simp; done) | (simp; omega) | omega | (apply Nat.ble_eq_true_of_le; omega) | (simp [Nat.blt_eq]; omega)
      ·
        first | with_reducible assumption | exact rfl | exact tabIs_self _ | exact rf_b .. | exact hmy (by omega) | exact (hlt (by omega) (by omega)).1 | exact (hlt (by omega) (by omega)).2.1 | exact (hlt (by omega) (by omega)).2.2.1 | exact (hlt (by omega) (by omega)).2.2.2 (by assumption) | exact .inl ⟨rfl, rfl⟩ | exact fun _ => rfl | (apply Nat.ble_eq_true_of_le; omega) | (simp [Nat.blt_eq]; omega) | (simp; done) | (simp; omega) | omega | (apply Nat.ble_eq_true_of_le; omega) | (simp [Nat.blt_eq]; omega)
  | false =>
    have g1 := of_decide_eq_false h1
    try simp only [Int.ofNat_eq_natCast, ge_iff_le, gt_iff_lt, Int.not_lt, Int.not_le] at g1
    obtain rfl : L.length = ii := by omega
    refine round_exit (s0 := haU m f mn fe L) (T := fun i => haT m f mn fe L i) (i := L.length) (har_4 ..) (by simp) (ob_cons rfl (ob_cons rfl (ob_cons rfl (ob_cons rfl (ob_cons rfl (ob_cons rfl (ob_cons rfl (ob_cons rfl (ob_cons rfl (ob_cons rfl (ob_cons rfl (ob_cons rfl (ob_cons rfl (ob_cons rfl (ob_cons rfl (ob_cons (Nat.le_refl _) (ob_cons (.inl ⟨rfl, rfl⟩) (ob_cons rfl (ob_cons (Nat.le_refl _) (ob_cons (.inl ⟨rfl, rfl⟩) (ob_cons rfl (ob_cons (Nat.le_refl _) (ob_cons (.inl ⟨rfl, rfl⟩) (ob_cons rfl (ob_cons (Nat.le_refl _) (ob_cons (.inl ⟨rfl, rfl⟩) (ob_cons h1 ob_nil)))))))))))))))))))))))))))
end Go.Proofs.YtljeiencnpnbkaaDoor
