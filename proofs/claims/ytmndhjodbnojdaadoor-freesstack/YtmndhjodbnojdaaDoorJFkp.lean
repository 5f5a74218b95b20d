/-
  FreesStack: the second loop: pushes.
-/
import Derived.Test.YtmndhjodbnojdaaDoorJFkpDef
set_option linter.unusedSimpArgs false
set_option linter.unusedVariables false
namespace Go.Proofs.YtmndhjodbnojdaaDoor
open Go.Ev
theorem fkpr_1 (m : Nat) (f : Nat → Nat → AV) (n : Nat) (E : Nat → Int) (ii : Nat) : roundB EFk 2000 fkpL ((fkpU m f n E).hp) [] (fkpT m f n E ii) [Hint.b true, Hint.b false, Hint.b false] (fkpT m f n E (ii + 1)) =
 some (Ex.norm, [(0 : Nat) = 0,
 n = n,
 (none : Option Nat) = none,
 (0 : Nat) = 0,
 (0 : Nat) = 0,
 IntKind.i64.wrap (Int.ofNat ii + 1) = Int.ofNat (ii + 1),
 true = true,
 (1 : Nat) ≤ (1 : Nat),
 tabF tab = tabF tab ∧ plainSh (List.map kindOfV tab) = true ∨ ∀ (i : Nat), i < 1 → rowOb (List.map kindOfV tab) 0 (tabF tab i) (tabF tab i),
 false = false,
 n ≤ n,
 LF E = LF E ∧ plainSh [CK.int IntKind.i64] = true ∨ ∀ (i : Nat), i < n → rowOb [CK.int IntKind.i64] 0 (LF E i) (LF E i),
 (pshY (pshY (pshY (fkS E ii) (UO.mk 1 0 (E (0 + ii)))) (pshX (fkS E ii) (UO.mk 1 0 (E (0 + ii))))) (pshX (pshY (fkS E ii) (UO.mk 1 0 (E (0 + ii)))) (pshX (fkS E ii) (UO.mk 1 0 (E (0 + ii)))))).st = (fkS E (ii + 1)).st,
 (pshY (pshY (pshY (fkS E ii) (UO.mk 1 0 (E (0 + ii)))) (pshX (fkS E ii) (UO.mk 1 0 (E (0 + ii))))) (pshX (pshY (fkS E ii) (UO.mk 1 0 (E (0 + ii)))) (pshX (fkS E ii) (UO.mk 1 0 (E (0 + ii)))))).L.c = (fkS E (ii + 1)).L.c,
 (pshY (pshY (pshY (fkS E ii) (UO.mk 1 0 (E (0 + ii)))) (pshX (fkS E ii) (UO.mk 1 0 (E (0 + ii))))) (pshX (pshY (fkS E ii) (UO.mk 1 0 (E (0 + ii)))) (pshX (fkS E ii) (UO.mk 1 0 (E (0 + ii)))))).L.k = (fkS E (ii + 1)).L.k,
 (pshY (pshY (pshY (fkS E ii) (UO.mk 1 0 (E (0 + ii)))) (pshX (fkS E ii) (UO.mk 1 0 (E (0 + ii))))) (pshX (pshY (fkS E ii) (UO.mk 1 0 (E (0 + ii)))) (pshX (fkS E ii) (UO.mk 1 0 (E (0 + ii)))))).L.a = (fkS E (ii + 1)).L.a,
 (pshY (pshY (pshY (fkS E ii) (UO.mk 1 0 (E (0 + ii)))) (pshX (fkS E ii) (UO.mk 1 0 (E (0 + ii))))) (pshX (pshY (fkS E ii) (UO.mk 1 0 (E (0 + ii)))) (pshX (fkS E ii) (UO.mk 1 0 (E (0 + ii)))))).L.f = (fkS E (ii + 1)).L.f,
 (pshY (pshY (pshY (fkS E ii) (UO.mk 1 0 (E (0 + ii)))) (pshX (fkS E ii) (UO.mk 1 0 (E (0 + ii))))) (pshX (pshY (fkS E ii) (UO.mk 1 0 (E (0 + ii)))) (pshX (fkS E ii) (UO.mk 1 0 (E (0 + ii)))))).L.w = (fkS E (ii + 1)).L.w,
 (pshY (pshY (pshY (fkS E ii) (UO.mk 1 0 (E (0 + ii)))) (pshX (fkS E ii) (UO.mk 1 0 (E (0 + ii))))) (pshX (pshY (fkS E ii) (UO.mk 1 0 (E (0 + ii)))) (pshX (fkS E ii) (UO.mk 1 0 (E (0 + ii)))))).L.i = (fkS E (ii + 1)).L.i,
 (pshY (pshY (pshY (fkS E ii) (UO.mk 1 0 (E (0 + ii)))) (pshX (fkS E ii) (UO.mk 1 0 (E (0 + ii))))) (pshX (pshY (fkS E ii) (UO.mk 1 0 (E (0 + ii)))) (pshX (fkS E ii) (UO.mk 1 0 (E (0 + ii)))))).L.d = (fkS E (ii + 1)).L.d,
 ∀ (k : List Int), (pshY (pshY (pshY (fkS E ii) (UO.mk 1 0 (E (0 + ii)))) (pshX (fkS E ii) (UO.mk 1 0 (E (0 + ii))))) (pshX (pshY (fkS E ii) (UO.mk 1 0 (E (0 + ii)))) (pshX (fkS E ii) (UO.mk 1 0 (E (0 + ii)))))).M k = (fkS E (ii + 1)).M k,
 tabF tab = tabF tab,
 U64 (pshY (pshY (fkS E ii) (UO.mk 1 0 (E (0 + ii)))) (pshX (fkS E ii) (UO.mk 1 0 (E (0 + ii))))),
 Ln3 (pshX (pshY (fkS E ii) (UO.mk 1 0 (E (0 + ii)))) (pshX (fkS E ii) (UO.mk 1 0 (E (0 + ii))))).ln,
 R64 (pshX (pshY (fkS E ii) (UO.mk 1 0 (E (0 + ii)))) (pshX (fkS E ii) (UO.mk 1 0 (E (0 + ii))))).h,
 tabF tab = tabF tab,
 U64 (pshY (fkS E ii) (UO.mk 1 0 (E (0 + ii)))),
 Ln3 (pshX (fkS E ii) (UO.mk 1 0 (E (0 + ii)))).ln,
 R64 (pshX (fkS E ii) (UO.mk 1 0 (E (0 + ii)))).h,
 tabF tab = tabF tab,
 U64 (fkS E ii),
 Ln3 1,
 R64 0,
 decide (E (0 + ii) ≥ 256) = false,
 decide (E (0 + ii) < 0) = false,
 (0 + ii).blt n = true,
 (ii.blt n && decide (0 ≤ Int.ofNat ii)) = true,
 decide (Int.ofNat ii < Int.ofNat n) = true]) := by kernel_rfl
theorem fkpr_2 (m : Nat) (f : Nat → Nat → AV) (n : Nat) (E : Nat → Int) (ii : Nat) : roundB EFk 2000 fkpL ((fkpU m f n E).hp) [] (fkpT m f n E ii) [Hint.b false] (fkpX m f n E ii) =
 some (Ex.exit 4, [(0 : Nat) = 0,
 n = n,
 (none : Option Nat) = none,
 (0 : Nat) = 0,
 (0 : Nat) = 0,
 true = true,
 (1 : Nat) ≤ (1 : Nat),
 tabF tab = tabF tab ∧ plainSh (List.map kindOfV tab) = true ∨ ∀ (i : Nat), i < 1 → rowOb (List.map kindOfV tab) 0 (tabF tab i) (tabF tab i),
 false = false,
 n ≤ n,
 LF E = LF E ∧ plainSh [CK.int IntKind.i64] = true ∨ ∀ (i : Nat), i < n → rowOb [CK.int IntKind.i64] 0 (LF E i) (LF E i),
 (fkS E ii).st = (fkS E ii).st,
 (fkS E ii).L.c = (fkS E ii).L.c,
 (fkS E ii).L.k = (fkS E ii).L.k,
 (fkS E ii).L.a = (fkS E ii).L.a,
 (fkS E ii).L.f = (fkS E ii).L.f,
 (fkS E ii).L.w = (fkS E ii).L.w,
 (fkS E ii).L.i = (fkS E ii).L.i,
 (fkS E ii).L.d = (fkS E ii).L.d,
 ∀ (k : List Int), (fkS E ii).M k = (fkS E ii).M k,
 decide (Int.ofNat ii < Int.ofNat n) = false]) := by kernel_rfl
theorem fkpi_1 (m : Nat) (f : Nat → Nat → AV) (n : Nat) (E : Nat → Int) : castSt ((fkpU m f n E).hp) [] (fkpU m f n E) (fkpT m f n E 0) =
 some ([(0 : Nat) = 0,
 n = n,
 (none : Option Nat) = none,
 (0 : Nat) = 0,
 (0 : Nat) = 0,
 (0 : Int) = 0,
 true = true,
 (1 : Nat) ≤ (1 : Nat),
 tabF tab = tabF tab ∧ plainSh (List.map kindOfV tab) = true ∨ ∀ (i : Nat), i < 1 → rowOb (List.map kindOfV tab) 0 (tabF tab i) (tabF tab i),
 false = false,
 n ≤ n,
 LF E = LF E ∧ plainSh [CK.int IntKind.i64] = true ∨ ∀ (i : Nat), i < n → rowOb [CK.int IntKind.i64] 0 (LF E i) (LF E i),
 (0 : Int) = 0,
 (0 : Int) = 0,
 (0 : Int) = 0,
 (0 : Int) = 0,
 (0 : Int) = 0,
 (0 : Int) = 0,
 (0 : Int) = 0,
 false = (fkS E 0).L.d,
 ∀ (k : List Int), none = (fkS E 0).M k]) := by kernel_rfl
theorem fkp_lp (m : Nat) (f : Nat → Nat → AV) (n : Nat) (E : Nat → Int) (hn : n ≤ 1000) (hE : ∀ i, i < n → 0 ≤ E i ∧ E i < 256) : fkpLP m f n E := by
  refine loop_rule EFk_ok (I := Nat) (fun i => fkpT m f n E i) (fun i => n - i) (fun i => i ≤ n) ?_ (fun ii hi => ?_)
  ·
    refine ⟨0, [], _, Nat.zero_le _, fkpi_1 .., (ob_cons rfl (ob_cons rfl (ob_cons rfl (ob_cons rfl (ob_cons rfl (ob_cons rfl (ob_cons rfl (ob_cons (Nat.le_refl _) (ob_cons (.inl ⟨rfl, rfl⟩) (ob_cons rfl (ob_cons (Nat.le_refl _) (ob_cons (.inl ⟨rfl, rfl⟩) (ob_cons rfl (ob_cons rfl (ob_cons rfl (ob_cons rfl (ob_cons rfl (ob_cons rfl (ob_cons rfl (ob_cons ?_ (ob_cons ?_ ob_nil)))))))))))))))))))))⟩
    ·
      first | exact rfl | exact .inl ⟨rfl, rfl⟩ | exact fun _ => rfl | exact Nat.le_refl _ | rfl
    ·
      first | exact rfl | exact .inl ⟨rfl, rfl⟩ | exact fun _ => rfl | exact Nat.le_refl _ | exact fun _ => rfl
  have hi : ii ≤ n := hi
  have hu := fkS_u E ii
  have hu1 := (psS_u hu (E (0 + ii))).1
  have hu2 := (psS_u hu (E (0 + ii))).2.1
  have ho1 := (psO_ok hu (E (0 + ii))).1
  have ho2 := (psO_ok hu (E (0 + ii))).2
  have hEi : ii < n → 0 ≤ E (0 + ii) ∧ E (0 + ii) < 256 := fun h => by rw [Nat.zero_add]; exact hE ii h
  cases h1 : (decide (Int.ofNat ii < Int.ofNat n)) with
  | true =>
    have g1 := of_decide_eq_true h1
    try simp only [Int.ofNat_eq_natCast, ge_iff_le, gt_iff_lt, Int.not_lt, Int.not_le] at g1
    refine round_norm (s0 := fkpU m f n E) (T := fun i => fkpT m f n E i) (i := ii) (ii + 1) (fkpr_1 ..) (ob_cons rfl (ob_cons rfl (ob_cons rfl (ob_cons rfl (ob_cons rfl (ob_cons ?_ (ob_cons rfl (ob_cons (Nat.le_refl _) (ob_cons (.inl ⟨rfl, rfl⟩) (ob_cons rfl (ob_cons (Nat.le_refl _) (ob_cons (.inl ⟨rfl, rfl⟩) (ob_cons ?_ (ob_cons ?_ (ob_cons ?_ (ob_cons ?_ (ob_cons ?_ (ob_cons ?_ (ob_cons ?_ (ob_cons ?_ (ob_cons ?_ (ob_cons rfl (ob_cons ?_ (ob_cons ?_ (ob_cons ?_ (ob_cons rfl (ob_cons ?_ (ob_cons ?_ (ob_cons ?_ (ob_cons rfl (ob_cons ?_ (ob_cons ?_ (ob_cons ?_ (ob_cons ?_ (ob_cons ?_ (ob_cons ?_ (ob_cons ?_ (ob_cons h1 ob_nil)))))))))))))))))))))))))))))))))))))) (by show ii + 1 ≤ n; omega) (by show n - (ii + 1) < n - ii; omega)
    ·
      first | with_reducible assumption | exact rfl | exact hu | exact hu1 | exact hu2 | exact ho1.l | exact ho2.l | exact ho1.h | exact ho2.h | exact .inr (.inl rfl) | exact z0 | exact decide_eq_false (by have := hEi (by omega); omega) | exact .inl ⟨rfl, rfl⟩ | exact fun _ => rfl | (apply Nat.ble_eq_true_of_le; omega) | (simp [Nat.blt_eq]; omega) | (simp; done) | (simp; omega) | exact wrap_nat64 _ (by simp; omega) (by simp; omega)
    ·
      first | with_reducible assumption | exact rfl | exact hu | exact hu1 | exact hu2 | exact ho1.l | exact ho2.l | exact ho1.h | exact ho2.h | exact .inr (.inl rfl) | exact z0 | exact decide_eq_false (by have := hEi (by omega); omega) | exact .inl ⟨rfl, rfl⟩ | exact fun _ => rfl | (apply Nat.ble_eq_true_of_le; omega) | (simp [Nat.blt_eq]; omega) | (simp; done) | (simp; omega) | rfl
    ·
      first | with_reducible assumption | exact rfl | exact hu | exact hu1 | exact hu2 | exact ho1.l | exact ho2.l | exact ho1.h | exact ho2.h | exact .inr (.inl rfl) | exact z0 | exact decide_eq_false (by have := hEi (by omega); omega) | exact .inl ⟨rfl, rfl⟩ | exact fun _ => rfl | (apply Nat.ble_eq_true_of_le; omega) | (simp [Nat.blt_eq]; omega) | (simp; done) | (simp; omega) | rfl
    ·
      first | with_reducible assumption | exact rfl | exact hu | exact hu1 | exact hu2 | exact ho1.l | exact ho2.l | exact ho1.h | exact ho2.h | exact .inr (.inl rfl) | exact z0 | exact decide_eq_false (by have := hEi (by omega); omega) | exact .inl ⟨rfl, rfl⟩ | exact fun _ => rfl | (apply Nat.ble_eq_true_of_le; omega) | (simp [Nat.blt_eq]; omega) | (simp; done) | (simp; omega) | rfl
    ·
      first | with_reducible assumption | exact rfl | exact hu | exact hu1 | exact hu2 | exact ho1.l | exact ho2.l | exact ho1.h | exact ho2.h | exact .inr (.inl rfl) | exact z0 | exact decide_eq_false (by have := hEi (by omega); omega) | exact .inl ⟨rfl, rfl⟩ | exact fun _ => rfl | (apply Nat.ble_eq_true_of_le; omega) | (simp [Nat.blt_eq]; omega) | (simp; done) | (simp; omega) | rfl
    ·
      first | with_reducible assumption | exact rfl | exact hu | exact hu1 | exact hu2 | exact ho1.l | exact ho2.l | exact ho1.h | exact ho2.h | exact .inr (.inl rfl) | exact z0 | exact decide_eq_false (by have := hEi (by omega); omega) | exact .inl ⟨rfl, rfl⟩ | exact fun _ => rfl | (apply Nat.ble_eq_true_of_le; omega) | (simp [Nat.blt_eq]; omega) | (simp; done) | (simp; omega) | rfl
    ·
      first | with_reducible assumption | exact rfl | exact hu | exact hu1 | exact hu2 | exact ho1.l | exact ho2.l | exact ho1.h | exact ho2.h | exact .inr (.inl rfl) | exact z0 | exact decide_eq_false (by have := hEi (by omega); omega) | exact .inl ⟨rfl, rfl⟩ | exact fun _ => rfl | (apply Nat.ble_eq_true_of_le; omega) | (simp [Nat.blt_eq]; omega) | (simp; done) | (simp; omega) | rfl
    ·
      first | with_reducible assumption | exact rfl | exact hu | exact hu1 | exact hu2 | exact ho1.l | exact ho2.l | exact ho1.h | exact ho2.h | exact .inr (.inl rfl) | exact z0 | exact decide_eq_false (by have := hEi (by omega); omega) | exact .inl ⟨rfl, rfl⟩ | exact fun _ => rfl | (apply Nat.ble_eq_true_of_le; omega) | (simp [Nat.blt_eq]; omega) | (simp; done) | (simp; omega) | rfl
    ·
      first | with_reducible assumption | exact rfl | exact hu | exact hu1 | exact hu2 | exact ho1.l | exact ho2.l | exact ho1.h | exact ho2.h | exact .inr (.inl rfl) | exact z0 | exact decide_eq_false (by have := hEi (by omega); omega) | exact .inl ⟨rfl, rfl⟩ | exact fun _ => rfl | (apply Nat.ble_eq_true_of_le; omega) | (simp [Nat.blt_eq]; omega) | (simp; done) | (simp; omega) | rfl
    ·
      first | with_reducible assumption | exact rfl | exact hu | exact hu1 | exact hu2 | exact ho1.l | exact ho2.l | exact ho1.h | exact ho2.h | exact .inr (.inl rfl) | exact z0 | exact decide_eq_false (by have := hEi (by omega); omega) | exact .inl ⟨rfl, rfl⟩ | exact fun _ => rfl | (apply Nat.ble_eq_true_of_le; omega) | (simp [Nat.blt_eq]; omega) | (simp; done) | (simp; omega) | exact fun _ => rfl
    ·
      first | with_reducible assumption | exact rfl | exact hu | exact hu1 | exact hu2 | exact ho1.l | exact ho2.l | exact ho1.h | exact ho2.h | exact .inr (.inl rfl) | exact z0 | exact decide_eq_false (by have := hEi (by omega); omega) | exact .inl ⟨rfl, rfl⟩ | exact fun _ => rfl | (apply Nat.ble_eq_true_of_le; omega) | (simp [Nat.blt_eq]; omega) | (simp; done) | (simp; omega) | trivial
    ·
      first | with_reducible assumption | exact rfl | exact hu | exact hu1 | exact hu2 | exact ho1.l | exact ho2.l | exact ho1.h | exact ho2.h | exact .inr (.inl rfl) | exact z0 | exact decide_eq_false (by have := hEi (by omega); omega) | exact .inl ⟨rfl, rfl⟩ | exact fun _ => rfl | (apply Nat.ble_eq_true_of_le; omega) | (simp [Nat.blt_eq]; omega) | (simp; done) | (simp; omega) | trivial
    ·
      first | with_reducible assumption | exact rfl | exact hu | exact hu1 | exact hu2 | exact ho1.l | exact ho2.l | exact ho1.h | exact ho2.h | exact .inr (.inl rfl) | exact z0 | exact decide_eq_false (by have := hEi (by omega); omega) | exact .inl ⟨rfl, rfl⟩ | exact fun _ => rfl | (apply Nat.ble_eq_true_of_le; omega) | (simp [Nat.blt_eq]; omega) | (simp; done) | (simp; omega) | trivial
    ·
      first | with_reducible assumption | exact rfl | exact hu | exact hu1 | exact hu2 | exact ho1.l | exact ho2.l | exact ho1.h | exact ho2.h | exact .inr (.inl rfl) | exact z0 | exact decide_eq_false (by have := hEi (by omega); omega) | exact .inl ⟨rfl, rfl⟩ | exact fun _ => rfl | (apply Nat.ble_eq_true_of_le; omega) | (simp [Nat.blt_eq]; omega) | (simp; done) | (simp; omega) | trivial
    ·
      first | with_reducible assumption | exact rfl | exact hu | exact hu1 | exact hu2 | exact ho1.l | exact ho2.l | exact ho1.h | exact ho2.h | exact .inr (.inl rfl) | exact z0 | exact decide_eq_false (by have := hEi (by omega); omega) | exact .inl ⟨rfl, rfl⟩ | exact fun _ => rfl | (apply Nat.ble_eq_true_of_le; omega) | (simp [Nat.blt_eq]; omega) | (simp; done) | (simp; omega) | trivial
    ·
      first | with_reducible assumption | exact rfl | exact hu | exact hu1 | exact hu2 | exact ho1.l | exact ho2.l | exact ho1.h | exact ho2.h | exact .inr (.inl rfl) | exact z0 | exact decide_eq_false (by have := hEi (by omega); omega) | exact .inl ⟨rfl, rfl⟩ | exact fun _ => rfl | (apply Nat.ble_eq_true_of_le; omega) | (simp [Nat.blt_eq]; omega) | (simp; done) | (simp; omega) | trivial
    ·
      first | with_reducible assumption | exact rfl | exact hu | exact hu1 | exact hu2 | exact ho1.l | exact ho2.l | exact ho1.h | exact ho2.h | exact .inr (.inl rfl) | exact z0 | exact decide_eq_false (by have := hEi (by omega); omega) | exact .inl ⟨rfl, rfl⟩ | exact fun _ => rfl | (apply Nat.ble_eq_true_of_le; omega) | (simp [Nat.blt_eq]; omega) | (simp; done) | (simp; omega) | trivial
    ·
      first | with_reducible assumption | exact rfl | exact hu | exact hu1 | exact hu2 | exact ho1.l | exact ho2.l | exact ho1.h | exact ho2.h | exact .inr (.inl rfl) | exact z0 | exact decide_eq_false (by have := hEi (by omega); omega) | exact .inl ⟨rfl, rfl⟩ | exact fun _ => rfl | (apply Nat.ble_eq_true_of_le; omega) | (simp [Nat.blt_eq]; omega) | (simp; done) | (simp; omega) | trivial
    ·
      first | with_reducible assumption | exact rfl | exact hu | exact hu1 | exact hu2 | exact ho1.l | exact ho2.l | exact ho1.h | exact ho2.h | exact .inr (.inl rfl) | exact z0 | exact decide_eq_false (by have := hEi (by omega); omega) | exact .inl ⟨rfl, rfl⟩ | exact fun _ => rfl | (apply Nat.ble_eq_true_of_le; omega) | (simp [Nat.blt_eq]; omega) | (simp; done) | (simp; omega) | trivial
    ·
      first | with_reducible assumption | exact rfl | exact hu | exact hu1 | exact hu2 | exact ho1.l | exact ho2.l | exact ho1.h | exact ho2.h | exact .inr (.inl rfl) | exact z0 | exact decide_eq_false (by have := hEi (by omega); omega) | exact .inl ⟨rfl, rfl⟩ | exact fun _ => rfl | (apply Nat.ble_eq_true_of_le; omega) | (simp [Nat.blt_eq]; omega) | (simp; done) | (simp; omega) | (apply Nat.ble_eq_true_of_le; omega) | (simp [Nat.blt_eq]; omega)
    ·
      first | with_reducible assumption | exact rfl | exact hu | exact hu1 | exact hu2 | exact ho1.l | exact ho2.l | exact ho1.h | exact ho2.h | exact .inr (.inl rfl) | exact z0 | exact decide_eq_false (by have := hEi (by omega); omega) | exact .inl ⟨rfl, rfl⟩ | exact fun _ => rfl | (apply Nat.ble_eq_true_of_le; omega) | (simp [Nat.blt_eq]; omega) | (simp; done) | (simp; omega) | (apply Nat.ble_eq_true_of_le; omega) | (simp [Nat.blt_eq]; omega)
    ·
      first | with_reducible assumption | exact rfl | exact hu | exact hu1 | exact hu2 | exact ho1.l | exact ho2.l | exact ho1.h | exact ho2.h | exact .inr (.inl rfl) | exact z0 | exact decide_eq_false (by have := hEi (by omega); omega) | exact .inl ⟨rfl, rfl⟩ | exact fun _ => rfl | (apply Nat.ble_eq_true_of_le; omega) | (simp [Nat.blt_eq]; omega) | (simp; done) | (simp; omega) | (apply Nat.ble_eq_true_of_le; omega) | (simp [Nat.blt_eq]; omega)
    ·
      first | with_reducible assumption | exact rfl | exact hu | exact hu1 | exact hu2 | exact ho1.l | exact ho2.l | exact ho1.h | exact ho2.h | exact .inr (.inl rfl) | exact z0 | exact decide_eq_false (by have := hEi (by omega); omega) | exact .inl ⟨rfl, rfl⟩ | exact fun _ => rfl | (apply Nat.ble_eq_true_of_le; omega) | (simp [Nat.blt_eq]; omega) | (simp; done) | (simp; omega) | (apply Nat.ble_eq_true_of_le; omega) | (simp [Nat.blt_eq]; omega)
  | false =>
    have g1 := of_decide_eq_false h1
    try simp only [Int.ofNat_eq_natCast, ge_iff_le, gt_iff_lt, Int.not_lt, Int.not_le] at g1
    obtain rfl : n = ii := by omega
    refine round_exit (s0 := fkpU m f n E) (T := fun i => fkpT m f n E i) (i := n) (fkpr_2 ..) (by simp) (ob_cons rfl (ob_cons rfl (ob_cons rfl (ob_cons rfl (ob_cons rfl (ob_cons rfl (ob_cons (Nat.le_refl _) (ob_cons (.inl ⟨rfl, rfl⟩) (ob_cons rfl (ob_cons (Nat.le_refl _) (ob_cons (.inl ⟨rfl, rfl⟩) (ob_cons rfl (ob_cons rfl (ob_cons rfl (ob_cons rfl (ob_cons rfl (ob_cons rfl (ob_cons rfl (ob_cons rfl (ob_cons (fun _ => rfl) (ob_cons h1 ob_nil)))))))))))))))))))))
end Go.Proofs.YtmndhjodbnojdaaDoor
