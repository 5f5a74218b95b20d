/-
  HazardsHeld: the second loop.
-/
import Derived.Test.YtljeiencnpnbkaaDoorUHcDef
set_option linter.unusedSimpArgs false
set_option linter.unusedVariables false
namespace Go.Proofs.YtljeiencnpnbkaaDoor
open Go.Ev
theorem hcr_1 (m : Nat) (f : Nat → Nat → AV) (mn : Nat) (fe : Nat → Nat → AV) (L : List K2) (ii : Nat) : roundB EHw 2000 hcL ((hcU m f mn fe L).hp) [] (hcT m f mn fe L ii) [Hint.b true, Hint.lp [0, 1, 5, 6, 8, 9, 10] (Ex.exit 4) (hbX m f mn fe L ii L.length).tmps (hbX m f mn fe L ii L.length).hp.heap 5 [3], Hint.b false] (hcT m f mn fe L (ii + 1)) =
 some (Ex.norm, [(0 : Nat) = 0,
 m = m,
 (none : Option Nat) = none,
 (0 : Nat) = 0,
 mn = mn,
 (none : Option Nat) = none,
 (0 : Nat) = 0,
 (0 : Nat) = 0,
 (0 : Nat) = 0,
 L.length = L.length,
 some L.length = some L.length,
 IntKind.i64.wrap (Int.ofNat ii + 1) = Int.ofNat (ii + 1),
 (0 : Nat) = 0,
 m = m,
 (none : Option Nat) = none,
 true = true,
 (1 : Nat) ≤ (1 : Nat),
 tabF tab = tabF tab ∧ plainSh (List.map kindOfV tab) = true ∨ ∀ (i : Nat), i < 1 → rowOb (List.map kindOfV tab) 0 (tabF tab i) (tabF tab i),
 true = true,
 m ≤ m,
 f = f ∧ plainSh [CK.int IntKind.u64, CK.int IntKind.u64, CK.int IntKind.u64, CK.int IntKind.u64, CK.int IntKind.u64, CK.int IntKind.u64, CK.int IntKind.u64, CK.int IntKind.u64, CK.int IntKind.u64, CK.int IntKind.u64] = true ∨ ∀ (i : Nat), i < m → rowOb [CK.int IntKind.u64, CK.int IntKind.u64, CK.int IntKind.u64, CK.int IntKind.u64, CK.int IntKind.u64, CK.int IntKind.u64, CK.int IntKind.u64, CK.int IntKind.u64, CK.int IntKind.u64, CK.int IntKind.u64] 0 (f i) (f i),
 true = true,
 mn ≤ mn,
 fe = fe ∧ plainSh [CK.int IntKind.i64, CK.int IntKind.u32, CK.bool, CK.int IntKind.u64, CK.int IntKind.u64, CK.int IntKind.u64] = true ∨ ∀ (i : Nat), i < mn → rowOb [CK.int IntKind.i64, CK.int IntKind.u32, CK.bool, CK.int IntKind.u64, CK.int IntKind.u64, CK.int IntKind.u64] 0 (fe i) (fe i),
 false = false,
 L.length ≤ L.length,
 rfF L = rfF L ∧ plainSh rSh = true ∨ ∀ (i : Nat), i < L.length → rowOb rSh 0 (rfF L i) (rfF L i),
 (((mget (hM f m) [avInt (fe (0 + ii) 0), avInt (fe (0 + ii) 1), 0] == 0) == isF L (avInt (fe (0 + ii) 0)) (avInt (fe (0 + ii) 1)) L.length) == true) = false,
 m = m,
 tabF tab = tabF tab,
 m ≤ 300,
 ∀ (i : Nat), i < m → ∀ (j : Nat), 0 ≤ avInt (f (0 + i) j) ∧ avInt (f (0 + i) j) < 18446744073709551616,
 (0 + ii).blt mn = true,
 (ii.blt mn && decide (0 ≤ Int.ofNat ii)) = true,
 hbLP m f mn fe L ii,
 decide (Int.ofNat ii < Int.ofNat mn) = true]) := by kernel_rfl
theorem hcr_2 (m : Nat) (f : Nat → Nat → AV) (mn : Nat) (fe : Nat → Nat → AV) (L : List K2) (ii : Nat) : roundB EHw 2000 hcL ((hcU m f mn fe L).hp) [] (hcT m f mn fe L ii) [Hint.b false] (hcX m f mn fe L ii) =
 some (Ex.exit 2, [(0 : Nat) = 0,
 m = m,
 (none : Option Nat) = none,
 (0 : Nat) = 0,
 mn = mn,
 (none : Option Nat) = none,
 (0 : Nat) = 0,
 (0 : Nat) = 0,
 (0 : Nat) = 0,
 L.length = L.length,
 some L.length = some L.length,
 (0 : Nat) = 0,
 m = m,
 (none : Option Nat) = none,
 true = true,
 (1 : Nat) ≤ (1 : Nat),
 tabF tab = tabF tab ∧ plainSh (List.map kindOfV tab) = true ∨ ∀ (i : Nat), i < 1 → rowOb (List.map kindOfV tab) 0 (tabF tab i) (tabF tab i),
 true = true,
 m ≤ m,
 f = f ∧ plainSh [CK.int IntKind.u64, CK.int IntKind.u64, CK.int IntKind.u64, CK.int IntKind.u64, CK.int IntKind.u64, CK.int IntKind.u64, CK.int IntKind.u64, CK.int IntKind.u64, CK.int IntKind.u64, CK.int IntKind.u64] = true ∨ ∀ (i : Nat), i < m → rowOb [CK.int IntKind.u64, CK.int IntKind.u64, CK.int IntKind.u64, CK.int IntKind.u64, CK.int IntKind.u64, CK.int IntKind.u64, CK.int IntKind.u64, CK.int IntKind.u64, CK.int IntKind.u64, CK.int IntKind.u64] 0 (f i) (f i),
 true = true,
 mn ≤ mn,
 fe = fe ∧ plainSh [CK.int IntKind.i64, CK.int IntKind.u32, CK.bool, CK.int IntKind.u64, CK.int IntKind.u64, CK.int IntKind.u64] = true ∨ ∀ (i : Nat), i < mn → rowOb [CK.int IntKind.i64, CK.int IntKind.u32, CK.bool, CK.int IntKind.u64, CK.int IntKind.u64, CK.int IntKind.u64] 0 (fe i) (fe i),
 false = false,
 L.length ≤ L.length,
 rfF L = rfF L ∧ plainSh rSh = true ∨ ∀ (i : Nat), i < L.length → rowOb rSh 0 (rfF L i) (rfF L i),
 decide (Int.ofNat ii < Int.ofNat mn) = false]) := by kernel_rfl
theorem hci_1 (m : Nat) (f : Nat → Nat → AV) (mn : Nat) (fe : Nat → Nat → AV) (L : List K2) : castSt ((hcU m f mn fe L).hp) [] (hcU m f mn fe L) (hcT m f mn fe L 0) =
 some ([(0 : Nat) = 0,
 m = m,
 (none : Option Nat) = none,
 (0 : Nat) = 0,
 mn = mn,
 (none : Option Nat) = none,
 (0 : Nat) = 0,
 (0 : Nat) = 0,
 (0 : Nat) = 0,
 L.length = L.length,
 some L.length = some L.length,
 (0 : Int) = 0,
 (0 : Nat) = 0,
 m = m,
 (none : Option Nat) = none,
 true = true,
 (1 : Nat) ≤ (1 : Nat),
 tabF tab = tabF tab ∧ plainSh (List.map kindOfV tab) = true ∨ ∀ (i : Nat), i < 1 → rowOb (List.map kindOfV tab) 0 (tabF tab i) (tabF tab i),
 true = true,
 m ≤ m,
 f = f ∧ plainSh [CK.int IntKind.u64, CK.int IntKind.u64, CK.int IntKind.u64, CK.int IntKind.u64, CK.int IntKind.u64, CK.int IntKind.u64, CK.int IntKind.u64, CK.int IntKind.u64, CK.int IntKind.u64, CK.int IntKind.u64] = true ∨ ∀ (i : Nat), i < m → rowOb [CK.int IntKind.u64, CK.int IntKind.u64, CK.int IntKind.u64, CK.int IntKind.u64, CK.int IntKind.u64, CK.int IntKind.u64, CK.int IntKind.u64, CK.int IntKind.u64, CK.int IntKind.u64, CK.int IntKind.u64] 0 (f i) (f i),
 true = true,
 mn ≤ mn,
 fe = fe ∧ plainSh [CK.int IntKind.i64, CK.int IntKind.u32, CK.bool, CK.int IntKind.u64, CK.int IntKind.u64, CK.int IntKind.u64] = true ∨ ∀ (i : Nat), i < mn → rowOb [CK.int IntKind.i64, CK.int IntKind.u32, CK.bool, CK.int IntKind.u64, CK.int IntKind.u64, CK.int IntKind.u64] 0 (fe i) (fe i),
 false = false,
 L.length ≤ L.length,
 rfF L = rfF L ∧ plainSh rSh = true ∨ ∀ (i : Nat), i < L.length → rowOb rSh 0 (rfF L i) (rfF L i)]) := by kernel_rfl
theorem hc_lp (m : Nat) (f : Nat → Nat → AV) (mn : Nat) (fe : Nat → Nat → AV) (L : List K2) (hN : L.length ≤ 1000) (hmn : mn ≤ 30) (hm : m ≤ 300) (hf : ∀ i, i < m → ∀ j, 0 ≤ avInt (f (0 + i) j) ∧ avInt (f (0 + i) j) < 18446744073709551616) (hL : L = hlF (hM f m)) : hcLP m f mn fe L := by
  refine loop_rule EHw_ok (I := Nat) (fun i => hcT m f mn fe L i) (fun i => mn - i) (fun i => i ≤ mn) ?_ (fun ii hi => ?_)
  ·
    refine ⟨0, [], _, Nat.zero_le _, hci_1 .., (ob_cons rfl (ob_cons rfl (ob_cons rfl (ob_cons rfl (ob_cons rfl (ob_cons rfl (ob_cons rfl (ob_cons rfl (ob_cons rfl (ob_cons rfl (ob_cons rfl (ob_cons rfl (ob_cons rfl (ob_cons rfl (ob_cons rfl (ob_cons rfl (ob_cons (Nat.le_refl _) (ob_cons (.inl ⟨rfl, rfl⟩) (ob_cons rfl (ob_cons (Nat.le_refl _) (ob_cons (.inl ⟨rfl, rfl⟩) (ob_cons rfl (ob_cons (Nat.le_refl _) (ob_cons (.inl ⟨rfl, rfl⟩) (ob_cons rfl (ob_cons (Nat.le_refl _) (ob_cons (.inl ⟨rfl, rfl⟩) ob_nil)))))))))))))))))))))))))))⟩
  have hi : ii ≤ mn := hi
  have hlp : ii < mn → hbLP m f mn fe L ii := fun h => hb_lp m f mn fe L ii hN h (by omega)
  have hmis : ii < mn → ((mget (hM f m) [avInt (fe (0 + ii) 0), avInt (fe (0 + ii) 1), 0] == 0) == isF L (avInt (fe (0 + ii) 0)) (avInt (fe (0 + ii) 1)) L.length) = false := fun _ => by subst hL; exact may_is hm _ _
  cases h1 : (decide (Int.ofNat ii < Int.ofNat mn)) with
  | true =>
    have g1 := of_decide_eq_true h1
    try simp only [Int.ofNat_eq_natCast, ge_iff_le, gt_iff_lt, Int.not_lt, Int.not_le] at g1
    refine round_norm (s0 := hcU m f mn fe L) (T := fun i => hcT m f mn fe L i) (i := ii) (ii + 1) (hcr_1 ..) (ob_cons rfl (ob_cons rfl (ob_cons rfl (ob_cons rfl (ob_cons rfl (ob_cons rfl (ob_cons rfl (ob_cons rfl (ob_cons rfl (ob_cons rfl (ob_cons rfl (ob_cons ?_ (ob_cons rfl (ob_cons rfl (ob_cons rfl (ob_cons rfl (ob_cons (Nat.le_refl _) (ob_cons (.inl ⟨rfl, rfl⟩) (ob_cons rfl (ob_cons (Nat.le_refl _) (ob_cons (.inl ⟨rfl, rfl⟩) (ob_cons rfl (ob_cons (Nat.le_refl _) (ob_cons (.inl ⟨rfl, rfl⟩) (ob_cons rfl (ob_cons (Nat.le_refl _) (ob_cons (.inl ⟨rfl, rfl⟩) (ob_cons ?_ (ob_cons rfl (ob_cons rfl (ob_cons ?_ (ob_cons ?_ (ob_cons ?_ (ob_cons ?_ (ob_cons ?_ (ob_cons h1 ob_nil)))))))))))))))))))))))))))))))))))) (by show ii + 1 ≤ mn; omega) (by show mn - (ii + 1) < mn - ii; omega)
    ·
      first | with_reducible assumption | exact hlp (by omega) | exact hmis (by omega) | (rw [hmis (by omega)]; rfl) | exact rfl | exact tabIs_self _ | exact .inl ⟨rfl, rfl⟩ | exact fun _ => rfl | (apply Nat.ble_eq_true_of_le; omega) | (simp [Nat.blt_eq]; omega) | (simp; done) | (simp; omega) | omega | exact wrap_nat64 _ (by simp; omega) (by simp; omega)
    ·
      first | with_reducible assumption | exact hlp (by omega) | exact hmis (by omega) | (rw [hmis (by omega)]; rfl) | exact rfl | exact tabIs_self _ | exact .inl ⟨rfl, rfl⟩ | exact fun _ => rfl | (apply Nat.ble_eq_true_of_le; omega) | (simp [Nat.blt_eq]; omega) | (simp; done) | (simp; omega) | omega | (apply Nat.ble_eq_true_of_le; omega) | (simp [Nat.blt_eq]; omega)
    ·
      first | with_reducible assumption | exact hlp (by omega) | exact hmis (by omega) | (rw [hmis (by omega)]; rfl) | exact rfl | exact tabIs_self _ | exact .inl ⟨rfl, rfl⟩ | exact fun _ => rfl | (apply Nat.ble_eq_true_of_le; omega) | (simp [Nat.blt_eq]; omega) | (simp; done) | (simp; omega) | omega | exact Nat.le_refl _ | omega
    ·
      first | with_reducible assumption | exact hlp (by omega) | exact hmis (by omega) | (rw [hmis (by omega)]; rfl) | exact rfl | exact tabIs_self _ | exact .inl ⟨rfl, rfl⟩ | exact fun _ => rfl | (apply Nat.ble_eq_true_of_le; omega) | (simp [Nat.blt_eq]; omega) | (simp; done) | (simp; omega) | omega | exact fun _ => rfl
    ·
      first | with_reducible assumption | exact hlp (by omega) | exact hmis (by omega) | (rw [hmis (by omega)]; rfl) | exact rfl | exact tabIs_self _ | exact .inl ⟨rfl, rfl⟩ | exact fun _ => rfl | (apply Nat.ble_eq_true_of_le; omega) | (simp [Nat.blt_eq]; omega) | (simp; done) | (simp; omega) | omega | (apply Nat.ble_eq_true_of_le; omega) | (simp [Nat.blt_eq]; omega)
    ·
      first | with_reducible assumption | exact hlp (by omega) | exact hmis (by omega) | (rw [hmis (by omega)]; rfl) | exact rfl | exact tabIs_self _ | exact .inl ⟨rfl, rfl⟩ | exact fun _ => rfl | (apply Nat.ble_eq_true_of_le; omega) | (simp [Nat.blt_eq]; omega) | (simp; done) | (simp; omega) | omega | (apply Nat.ble_eq_true_of_le; omega) | (simp [Nat.blt_eq]; omega)
    ·
      first | with_reducible assumption | exact hlp (by omega) | exact hmis (by omega) | (rw [hmis (by omega)]; rfl) | exact rfl | exact tabIs_self _ | exact .inl ⟨rfl, rfl⟩ | exact fun _ => rfl | (apply Nat.ble_eq_true_of_le; omega) | (simp [Nat.blt_eq]; omega) | (simp; done) | (simp; omega) | omega | trivial
  | false =>
    have g1 := of_decide_eq_false h1
    try simp only [Int.ofNat_eq_natCast, ge_iff_le, gt_iff_lt, Int.not_lt, Int.not_le] at g1
    obtain rfl : mn = ii := by omega
    refine round_exit (s0 := hcU m f mn fe L) (T := fun i => hcT m f mn fe L i) (i := mn) (hcr_2 ..) (by simp) (ob_cons rfl (ob_cons rfl (ob_cons rfl (ob_cons rfl (ob_cons rfl (ob_cons rfl (ob_cons rfl (ob_cons rfl (ob_cons rfl (ob_cons rfl (ob_cons rfl (ob_cons rfl (ob_cons rfl (ob_cons rfl (ob_cons rfl (ob_cons (Nat.le_refl _) (ob_cons (.inl ⟨rfl, rfl⟩) (ob_cons rfl (ob_cons (Nat.le_refl _) (ob_cons (.inl ⟨rfl, rfl⟩) (ob_cons rfl (ob_cons (Nat.le_refl _) (ob_cons (.inl ⟨rfl, rfl⟩) (ob_cons rfl (ob_cons (Nat.le_refl _) (ob_cons (.inl ⟨rfl, rfl⟩) (ob_cons h1 ob_nil)))))))))))))))))))))))))))
end Go.Proofs.YtljeiencnpnbkaaDoor
