/-
  FreesStack: the last loop: pops.
-/
import Derived.Test.YtmndhjodbnojdaaDoorJFkdDef
set_option linter.unusedSimpArgs false
set_option linter.unusedVariables false
namespace Go.Proofs.YtmndhjodbnojdaaDoor
open Go.Ev
theorem fkdr_1 (n : Nat) (k : Nat) (E : Nat → Int) (S : MS) (ii : Nat) : roundB EFk 2000 fkdL ((fkdU n k E S).hp) [] (fkdT n k E S ii) [Hint.b true, Hint.b false, Hint.b false] (fkdT n k E S (ii + 1)) =
 some (Ex.norm, [(0 : Nat) = 0,
 k = k,
 (none : Option Nat) = none,
 (0 : Nat) = 0,
 (0 : Nat) = 0,
 IntKind.i64.wrap (Int.ofNat k - 1 - Int.ofNat ii - 1) = Int.ofNat k - 1 - Int.ofNat (ii + 1),
 true = true,
 (1 : Nat) ≤ (1 : Nat),
 tabF tab = tabF tab ∧ plainSh (List.map kindOfV tab) = true ∨ ∀ (i : Nat), i < 1 → rowOb (List.map kindOfV tab) 0 (tabF tab i) (tabF tab i),
 false = false,
 n ≤ n,
 LF E = LF E ∧ plainSh [CK.int IntKind.i64] = true ∨ ∀ (i : Nat), i < n → rowOb [CK.int IntKind.i64] 0 (LF E i) (LF E i),
 (popY (popY (popY (fkD S ii) (PO.mk 1 0 0 0 false)) (popX (fkD S ii) (PO.mk 1 0 0 0 false))) (popX (popY (fkD S ii) (PO.mk 1 0 0 0 false)) (popX (fkD S ii) (PO.mk 1 0 0 0 false)))).st = (fkD S (ii + 1)).st,
 (popY (popY (popY (fkD S ii) (PO.mk 1 0 0 0 false)) (popX (fkD S ii) (PO.mk 1 0 0 0 false))) (popX (popY (fkD S ii) (PO.mk 1 0 0 0 false)) (popX (fkD S ii) (PO.mk 1 0 0 0 false)))).L.c = (fkD S (ii + 1)).L.c,
 (popY (popY (popY (fkD S ii) (PO.mk 1 0 0 0 false)) (popX (fkD S ii) (PO.mk 1 0 0 0 false))) (popX (popY (fkD S ii) (PO.mk 1 0 0 0 false)) (popX (fkD S ii) (PO.mk 1 0 0 0 false)))).L.k = (fkD S (ii + 1)).L.k,
 (popY (popY (popY (fkD S ii) (PO.mk 1 0 0 0 false)) (popX (fkD S ii) (PO.mk 1 0 0 0 false))) (popX (popY (fkD S ii) (PO.mk 1 0 0 0 false)) (popX (fkD S ii) (PO.mk 1 0 0 0 false)))).L.a = (fkD S (ii + 1)).L.a,
 (popY (popY (popY (fkD S ii) (PO.mk 1 0 0 0 false)) (popX (fkD S ii) (PO.mk 1 0 0 0 false))) (popX (popY (fkD S ii) (PO.mk 1 0 0 0 false)) (popX (fkD S ii) (PO.mk 1 0 0 0 false)))).L.f = (fkD S (ii + 1)).L.f,
 (popY (popY (popY (fkD S ii) (PO.mk 1 0 0 0 false)) (popX (fkD S ii) (PO.mk 1 0 0 0 false))) (popX (popY (fkD S ii) (PO.mk 1 0 0 0 false)) (popX (fkD S ii) (PO.mk 1 0 0 0 false)))).L.w = (fkD S (ii + 1)).L.w,
 (popY (popY (popY (fkD S ii) (PO.mk 1 0 0 0 false)) (popX (fkD S ii) (PO.mk 1 0 0 0 false))) (popX (popY (fkD S ii) (PO.mk 1 0 0 0 false)) (popX (fkD S ii) (PO.mk 1 0 0 0 false)))).L.i = (fkD S (ii + 1)).L.i,
 (popY (popY (popY (fkD S ii) (PO.mk 1 0 0 0 false)) (popX (fkD S ii) (PO.mk 1 0 0 0 false))) (popX (popY (fkD S ii) (PO.mk 1 0 0 0 false)) (popX (fkD S ii) (PO.mk 1 0 0 0 false)))).L.d = (fkD S (ii + 1)).L.d,
 ∀ (k : List Int), (popY (popY (popY (fkD S ii) (PO.mk 1 0 0 0 false)) (popX (fkD S ii) (PO.mk 1 0 0 0 false))) (popX (popY (fkD S ii) (PO.mk 1 0 0 0 false)) (popX (fkD S ii) (PO.mk 1 0 0 0 false)))).M k = (fkD S (ii + 1)).M k,
 ((popX (popY (popY (fkD S ii) (PO.mk 1 0 0 0 false)) (popX (fkD S ii) (PO.mk 1 0 0 0 false))) (popX (popY (fkD S ii) (PO.mk 1 0 0 0 false)) (popX (fkD S ii) (PO.mk 1 0 0 0 false)))).sl != E (0 + (Int.ofNat k - 1 - Int.ofNat ii).toNat)) = false,
 (0 + (Int.ofNat k - 1 - Int.ofNat ii).toNat).blt n = true,
 ((Int.ofNat k - 1 - Int.ofNat ii).toNat.blt k && decide (0 ≤ Int.ofNat k - 1 - Int.ofNat ii)) = true,
 (!(popX (popY (popY (fkD S ii) (PO.mk 1 0 0 0 false)) (popX (fkD S ii) (PO.mk 1 0 0 0 false))) (popX (popY (fkD S ii) (PO.mk 1 0 0 0 false)) (popX (fkD S ii) (PO.mk 1 0 0 0 false)))).ok) = false,
 tabF tab = tabF tab,
 U64 (popY (popY (fkD S ii) (PO.mk 1 0 0 0 false)) (popX (fkD S ii) (PO.mk 1 0 0 0 false))),
 Ln3 (popX (popY (fkD S ii) (PO.mk 1 0 0 0 false)) (popX (fkD S ii) (PO.mk 1 0 0 0 false))).ln,
 R64 (popX (popY (fkD S ii) (PO.mk 1 0 0 0 false)) (popX (fkD S ii) (PO.mk 1 0 0 0 false))).h,
 tabF tab = tabF tab,
 U64 (popY (fkD S ii) (PO.mk 1 0 0 0 false)),
 Ln3 (popX (fkD S ii) (PO.mk 1 0 0 0 false)).ln,
 R64 (popX (fkD S ii) (PO.mk 1 0 0 0 false)).h,
 tabF tab = tabF tab,
 U64 (fkD S ii),
 Ln3 1,
 R64 0,
 decide (Int.ofNat k - 1 - Int.ofNat ii ≥ 0) = true]) := by kernel_rfl
theorem fkdr_2 (n : Nat) (k : Nat) (E : Nat → Int) (S : MS) (ii : Nat) : roundB EFk 2000 fkdL ((fkdU n k E S).hp) [] (fkdT n k E S ii) [Hint.b false] (fkdX n k E S ii) =
 some (Ex.exit 16, [true = true,
 (1 : Nat) ≤ (1 : Nat),
 tabF tab = tabF tab ∧ plainSh (List.map kindOfV tab) = true ∨ ∀ (i : Nat), i < 1 → rowOb (List.map kindOfV tab) 0 (tabF tab i) (tabF tab i),
 (fkD S ii).st = (fkD S ii).st,
 (fkD S ii).L.c = (fkD S ii).L.c,
 (fkD S ii).L.k = (fkD S ii).L.k,
 (fkD S ii).L.a = (fkD S ii).L.a,
 (fkD S ii).L.f = (fkD S ii).L.f,
 (fkD S ii).L.w = (fkD S ii).L.w,
 (fkD S ii).L.i = (fkD S ii).L.i,
 (fkD S ii).L.d = (fkD S ii).L.d,
 ∀ (k : List Int), (fkD S ii).M k = (fkD S ii).M k,
 decide (Int.ofNat k - 1 - Int.ofNat ii ≥ 0) = false]) := by kernel_rfl
theorem fkdi_1 (n : Nat) (k : Nat) (E : Nat → Int) (S : MS) : castSt ((fkdU n k E S).hp) [] (fkdU n k E S) (fkdT n k E S 0) =
 some ([(0 : Nat) = 0,
 k = k,
 (none : Option Nat) = none,
 (0 : Nat) = 0,
 (0 : Nat) = 0,
 IntKind.i64.wrap (Int.ofNat k - 1) = Int.ofNat k - 1 - 0,
 true = true,
 (1 : Nat) ≤ (1 : Nat),
 tabF tab = tabF tab ∧ plainSh (List.map kindOfV tab) = true ∨ ∀ (i : Nat), i < 1 → rowOb (List.map kindOfV tab) 0 (tabF tab i) (tabF tab i),
 false = false,
 n ≤ n,
 LF E = LF E ∧ plainSh [CK.int IntKind.i64] = true ∨ ∀ (i : Nat), i < n → rowOb [CK.int IntKind.i64] 0 (LF E i) (LF E i),
 S.st = (fkD S 0).st,
 S.L.c = (fkD S 0).L.c,
 S.L.k = (fkD S 0).L.k,
 S.L.a = (fkD S 0).L.a,
 S.L.f = (fkD S 0).L.f,
 S.L.w = (fkD S 0).L.w,
 S.L.i = (fkD S 0).L.i,
 S.L.d = (fkD S 0).L.d,
 ∀ (k : List Int), S.M k = (fkD S 0).M k]) := by kernel_rfl
theorem fkd_lp (n : Nat) (k : Nat) (E : Nat → Int) (S : MS) (hk : k ≤ n) (hn : n ≤ 1000) (hu0 : U64 S) (hq : ∀ i, i < k → (ppO3 (fkD S i)).ok = true ∧ (ppO3 (fkD S i)).sl = E (0 + (Int.ofNat k - 1 - Int.ofNat i).toNat)) : fkdLP n k E S := by
  refine loop_rule EFk_ok (I := Nat) (fun i => fkdT n k E S i) (fun i => k - i) (fun i => i ≤ k) ?_ (fun ii hi => ?_)
  ·
    refine ⟨0, [], _, Nat.zero_le _, fkdi_1 .., (ob_cons rfl (ob_cons rfl (ob_cons rfl (ob_cons rfl (ob_cons rfl (ob_cons ?_ (ob_cons rfl (ob_cons (Nat.le_refl _) (ob_cons (.inl ⟨rfl, rfl⟩) (ob_cons rfl (ob_cons (Nat.le_refl _) (ob_cons (.inl ⟨rfl, rfl⟩) (ob_cons ?_ (ob_cons ?_ (ob_cons ?_ (ob_cons ?_ (ob_cons ?_ (ob_cons ?_ (ob_cons ?_ (ob_cons ?_ (ob_cons ?_ ob_nil)))))))))))))))))))))⟩
    ·
      first | with_reducible assumption | exact rfl | exact hu | exact hu1 | exact hu2 | exact ho1.l | exact ho2.l | exact ho1.h | exact ho2.h | exact .inr (.inl rfl) | exact z0 | exact not_f (hq1 (by omega)).1 | exact bne_f (hq1 (by omega)).2 | exact dn_0 (by omega) | exact dn_1 (by omega) (by omega) | exact .inl ⟨rfl, rfl⟩ | exact fun _ => rfl | (rw [i64w (by simp; omega) (by simp; omega)]; simp; omega) | (apply Nat.ble_eq_true_of_le; simp; omega) | (apply Nat.ble_eq_true_of_le; omega) | (simp [Nat.blt_eq]; omega) | (simp; done) | (simp; omega) | exact wrap_nat64 _ (by simp; omega) (by simp; omega)
    ·
      first | with_reducible assumption | exact rfl | exact hu | exact hu1 | exact hu2 | exact ho1.l | exact ho2.l | exact ho1.h | exact ho2.h | exact .inr (.inl rfl) | exact z0 | exact not_f (hq1 (by omega)).1 | exact bne_f (hq1 (by omega)).2 | exact dn_0 (by omega) | exact dn_1 (by omega) (by omega) | exact .inl ⟨rfl, rfl⟩ | exact fun _ => rfl | (rw [i64w (by simp; omega) (by simp; omega)]; simp; omega) | (apply Nat.ble_eq_true_of_le; simp; omega) | (apply Nat.ble_eq_true_of_le; omega) | (simp [Nat.blt_eq]; omega) | (simp; done) | (simp; omega) | rfl
    ·
      first | with_reducible assumption | exact rfl | exact hu | exact hu1 | exact hu2 | exact ho1.l | exact ho2.l | exact ho1.h | exact ho2.h | exact .inr (.inl rfl) | exact z0 | exact not_f (hq1 (by omega)).1 | exact bne_f (hq1 (by omega)).2 | exact dn_0 (by omega) | exact dn_1 (by omega) (by omega) | exact .inl ⟨rfl, rfl⟩ | exact fun _ => rfl | (rw [i64w (by simp; omega) (by simp; omega)]; simp; omega) | (apply Nat.ble_eq_true_of_le; simp; omega) | (apply Nat.ble_eq_true_of_le; omega) | (simp [Nat.blt_eq]; omega) | (simp; done) | (simp; omega) | rfl
    ·
      first | with_reducible assumption | exact rfl | exact hu | exact hu1 | exact hu2 | exact ho1.l | exact ho2.l | exact ho1.h | exact ho2.h | exact .inr (.inl rfl) | exact z0 | exact not_f (hq1 (by omega)).1 | exact bne_f (hq1 (by omega)).2 | exact dn_0 (by omega) | exact dn_1 (by omega) (by omega) | exact .inl ⟨rfl, rfl⟩ | exact fun _ => rfl | (rw [i64w (by simp; omega) (by simp; omega)]; simp; omega) | (apply Nat.ble_eq_true_of_le; simp; omega) | (apply Nat.ble_eq_true_of_le; omega) | (simp [Nat.blt_eq]; omega) | (simp; done) | (simp; omega) | rfl
    ·
      first | with_reducible assumption | exact rfl | exact hu | exact hu1 | exact hu2 | exact ho1.l | exact ho2.l | exact ho1.h | exact ho2.h | exact .inr (.inl rfl) | exact z0 | exact not_f (hq1 (by omega)).1 | exact bne_f (hq1 (by omega)).2 | exact dn_0 (by omega) | exact dn_1 (by omega) (by omega) | exact .inl ⟨rfl, rfl⟩ | exact fun _ => rfl | (rw [i64w (by simp; omega) (by simp; omega)]; simp; omega) | (apply Nat.ble_eq_true_of_le; simp; omega) | (apply Nat.ble_eq_true_of_le; omega) | (simp [Nat.blt_eq]; omega) | (simp; done) | (simp; omega) | rfl
    ·
      first | with_reducible assumption | exact rfl | exact hu | exact hu1 | exact hu2 | exact ho1.l | exact ho2.l | exact ho1.h | exact ho2.h | exact .inr (.inl rfl) | exact z0 | exact not_f (hq1 (by omega)).1 | exact bne_f (hq1 (by omega)).2 | exact dn_0 (by omega) | exact dn_1 (by omega) (by omega) | exact .inl ⟨rfl, rfl⟩ | exact fun _ => rfl | (rw [i64w (by simp; omega) (by simp; omega)]; simp; omega) | (apply Nat.ble_eq_true_of_le; simp; omega) | (apply Nat.ble_eq_true_of_le; omega) | (simp [Nat.blt_eq]; omega) | (simp; done) | (simp; omega) | rfl
    ·
      first | with_reducible assumption | exact rfl | exact hu | exact hu1 | exact hu2 | exact ho1.l | exact ho2.l | exact ho1.h | exact ho2.h | exact .inr (.inl rfl) | exact z0 | exact not_f (hq1 (by omega)).1 | exact bne_f (hq1 (by omega)).2 | exact dn_0 (by omega) | exact dn_1 (by omega) (by omega) | exact .inl ⟨rfl, rfl⟩ | exact fun _ => rfl | (rw [i64w (by simp; omega) (by simp; omega)]; simp; omega) | (apply Nat.ble_eq_true_of_le; simp; omega) | (apply Nat.ble_eq_true_of_le; omega) | (simp [Nat.blt_eq]; omega) | (simp; done) | (simp; omega) | rfl
    ·
      first | with_reducible assumption | exact rfl | exact hu | exact hu1 | exact hu2 | exact ho1.l | exact ho2.l | exact ho1.h | exact ho2.h | exact .inr (.inl rfl) | exact z0 | exact not_f (hq1 (by omega)).1 | exact bne_f (hq1 (by omega)).2 | exact dn_0 (by omega) | exact dn_1 (by omega) (by omega) | exact .inl ⟨rfl, rfl⟩ | exact fun _ => rfl | (rw [i64w (by simp; omega) (by simp; omega)]; simp; omega) | (apply Nat.ble_eq_true_of_le; simp; omega) | (apply Nat.ble_eq_true_of_le; omega) | (simp [Nat.blt_eq]; omega) | (simp; done) | (simp; omega) | rfl
    ·
      first | with_reducible assumption | exact rfl | exact hu | exact hu1 | exact hu2 | exact ho1.l | exact ho2.l | exact ho1.h | exact ho2.h | exact .inr (.inl rfl) | exact z0 | exact not_f (hq1 (by omega)).1 | exact bne_f (hq1 (by omega)).2 | exact dn_0 (by omega) | exact dn_1 (by omega) (by omega) | exact .inl ⟨rfl, rfl⟩ | exact fun _ => rfl | (rw [i64w (by simp; omega) (by simp; omega)]; simp; omega) | (apply Nat.ble_eq_true_of_le; simp; omega) | (apply Nat.ble_eq_true_of_le; omega) | (simp [Nat.blt_eq]; omega) | (simp; done) | (simp; omega) | rfl
    ·
      first | with_reducible assumption | exact rfl | exact hu | exact hu1 | exact hu2 | exact ho1.l | exact ho2.l | exact ho1.h | exact ho2.h | exact .inr (.inl rfl) | exact z0 | exact not_f (hq1 (by omega)).1 | exact bne_f (hq1 (by omega)).2 | exact dn_0 (by omega) | exact dn_1 (by omega) (by omega) | exact .inl ⟨rfl, rfl⟩ | exact fun _ => rfl | (rw [i64w (by simp; omega) (by simp; omega)]; simp; omega) | (apply Nat.ble_eq_true_of_le; simp; omega) | (apply Nat.ble_eq_true_of_le; omega) | (simp [Nat.blt_eq]; omega) | (simp; done) | (simp; omega) | exact fun _ => rfl
  have hi : ii ≤ k := hi
  have hu := fkD_u hu0 ii
  have hu1 := (ppS_u hu).1
  have hu2 := (ppS_u hu).2.1
  have ho1 := (ppO_ok hu).1
  have ho2 := (ppO_ok hu).2
  have hq1 := hq ii
  cases h1 : (decide (Int.ofNat k - 1 - Int.ofNat ii ≥ 0)) with
  | true =>
    have g1 := of_decide_eq_true h1
    try simp only [Int.ofNat_eq_natCast, ge_iff_le, gt_iff_lt, Int.not_lt, Int.not_le] at g1
    refine round_norm (s0 := fkdU n k E S) (T := fun i => fkdT n k E S i) (i := ii) (ii + 1) (fkdr_1 ..) (ob_cons rfl (ob_cons rfl (ob_cons rfl (ob_cons rfl (ob_cons rfl (ob_cons ?_ (ob_cons rfl (ob_cons (Nat.le_refl _) (ob_cons (.inl ⟨rfl, rfl⟩) (ob_cons rfl (ob_cons (Nat.le_refl _) (ob_cons (.inl ⟨rfl, rfl⟩) (ob_cons ?_ (ob_cons ?_ (ob_cons ?_ (ob_cons ?_ (ob_cons ?_ (ob_cons ?_ (ob_cons ?_ (ob_cons ?_ (ob_cons ?_ (ob_cons ?_ (ob_cons ?_ (ob_cons ?_ (ob_cons ?_ (ob_cons rfl (ob_cons ?_ (ob_cons ?_ (ob_cons ?_ (ob_cons rfl (ob_cons ?_ (ob_cons ?_ (ob_cons ?_ (ob_cons rfl (ob_cons ?_ (ob_cons ?_ (ob_cons ?_ (ob_cons h1 ob_nil)))))))))))))))))))))))))))))))))))))) (by show ii + 1 ≤ k; omega) (by show k - (ii + 1) < k - ii; omega)
    ·
      first | with_reducible assumption | exact rfl | exact hu | exact hu1 | exact hu2 | exact ho1.l | exact ho2.l | exact ho1.h | exact ho2.h | exact .inr (.inl rfl) | exact z0 | exact not_f (hq1 (by omega)).1 | exact bne_f (hq1 (by omega)).2 | exact dn_0 (by omega) | exact dn_1 (by omega) (by omega) | exact .inl ⟨rfl, rfl⟩ | exact fun _ => rfl | (rw [i64w (by simp; omega) (by simp; omega)]; simp; omega) | (apply Nat.ble_eq_true_of_le; simp; omega) | (apply Nat.ble_eq_true_of_le; omega) | (simp [Nat.blt_eq]; omega) | (simp; done) | (simp; omega) | exact wrap_nat64 _ (by simp; omega) (by simp; omega)
    ·
      first | with_reducible assumption | exact rfl | exact hu | exact hu1 | exact hu2 | exact ho1.l | exact ho2.l | exact ho1.h | exact ho2.h | exact .inr (.inl rfl) | exact z0 | exact not_f (hq1 (by omega)).1 | exact bne_f (hq1 (by omega)).2 | exact dn_0 (by omega) | exact dn_1 (by omega) (by omega) | exact .inl ⟨rfl, rfl⟩ | exact fun _ => rfl | (rw [i64w (by simp; omega) (by simp; omega)]; simp; omega) | (apply Nat.ble_eq_true_of_le; simp; omega) | (apply Nat.ble_eq_true_of_le; omega) | (simp [Nat.blt_eq]; omega) | (simp; done) | (simp; omega) | rfl
    ·
      first | with_reducible assumption | exact rfl | exact hu | exact hu1 | exact hu2 | exact ho1.l | exact ho2.l | exact ho1.h | exact ho2.h | exact .inr (.inl rfl) | exact z0 | exact not_f (hq1 (by omega)).1 | exact bne_f (hq1 (by omega)).2 | exact dn_0 (by omega) | exact dn_1 (by omega) (by omega) | exact .inl ⟨rfl, rfl⟩ | exact fun _ => rfl | (rw [i64w (by simp; omega) (by simp; omega)]; simp; omega) | (apply Nat.ble_eq_true_of_le; simp; omega) | (apply Nat.ble_eq_true_of_le; omega) | (simp [Nat.blt_eq]; omega) | (simp; done) | (simp; omega) | rfl
    ·
      first | with_reducible assumption | exact rfl | exact hu | exact hu1 | exact hu2 | exact ho1.l | exact ho2.l | exact ho1.h | exact ho2.h | exact .inr (.inl rfl) | exact z0 | exact not_f (hq1 (by omega)).1 | exact bne_f (hq1 (by omega)).2 | exact dn_0 (by omega) | exact dn_1 (by omega) (by omega) | exact .inl ⟨rfl, rfl⟩ | exact fun _ => rfl | (rw [i64w (by simp; omega) (by simp; omega)]; simp; omega) | (apply Nat.ble_eq_true_of_le; simp; omega) | (apply Nat.ble_eq_true_of_le; omega) | (simp [Nat.blt_eq]; omega) | (simp; done) | (simp; omega) | rfl
    ·
      first | with_reducible assumption | exact rfl | exact hu | exact hu1 | exact hu2 | exact ho1.l | exact ho2.l | exact ho1.h | exact ho2.h | exact .inr (.inl rfl) | exact z0 | exact not_f (hq1 (by omega)).1 | exact bne_f (hq1 (by omega)).2 | exact dn_0 (by omega) | exact dn_1 (by omega) (by omega) | exact .inl ⟨rfl, rfl⟩ | exact fun _ => rfl | (rw [i64w (by simp; omega) (by simp; omega)]; simp; omega) | (apply Nat.ble_eq_true_of_le; simp; omega) | (apply Nat.ble_eq_true_of_le; omega) | (simp [Nat.blt_eq]; omega) | (simp; done) | (simp; omega) | rfl
    ·
      first | with_reducible assumption | exact rfl | exact hu | exact hu1 | exact hu2 | exact ho1.l | exact ho2.l | exact ho1.h | exact ho2.h | exact .inr (.inl rfl) | exact z0 | exact not_f (hq1 (by omega)).1 | exact bne_f (hq1 (by omega)).2 | exact dn_0 (by omega) | exact dn_1 (by omega) (by omega) | exact .inl ⟨rfl, rfl⟩ | exact fun _ => rfl | (rw [i64w (by simp; omega) (by simp; omega)]; simp; omega) | (apply Nat.ble_eq_true_of_le; simp; omega) | (apply Nat.ble_eq_true_of_le; omega) | (simp [Nat.blt_eq]; omega) | (simp; done) | (simp; omega) | rfl
    ·
      first | with_reducible assumption | exact rfl | exact hu | exact hu1 | exact hu2 | exact ho1.l | exact ho2.l | exact ho1.h | exact ho2.h | exact .inr (.inl rfl) | exact z0 | exact not_f (hq1 (by omega)).1 | exact bne_f (hq1 (by omega)).2 | exact dn_0 (by omega) | exact dn_1 (by omega) (by omega) | exact .inl ⟨rfl, rfl⟩ | exact fun _ => rfl | (rw [i64w (by simp; omega) (by simp; omega)]; simp; omega) | (apply Nat.ble_eq_true_of_le; simp; omega) | (apply Nat.ble_eq_true_of_le; omega) | (simp [Nat.blt_eq]; omega) | (simp; done) | (simp; omega) | rfl
    ·
      first | with_reducible assumption | exact rfl | exact hu | exact hu1 | exact hu2 | exact ho1.l | exact ho2.l | exact ho1.h | exact ho2.h | exact .inr (.inl rfl) | exact z0 | exact not_f (hq1 (by omega)).1 | exact bne_f (hq1 (by omega)).2 | exact dn_0 (by omega) | exact dn_1 (by omega) (by omega) | exact .inl ⟨rfl, rfl⟩ | exact fun _ => rfl | (rw [i64w (by simp; omega) (by simp; omega)]; simp; omega) | (apply Nat.ble_eq_true_of_le; simp; omega) | (apply Nat.ble_eq_true_of_le; omega) | (simp [Nat.blt_eq]; omega) | (simp; done) | (simp; omega) | rfl
    ·
      first | with_reducible assumption | exact rfl | exact hu | exact hu1 | exact hu2 | exact ho1.l | exact ho2.l | exact ho1.h | exact ho2.h | exact .inr (.inl rfl) | exact z0 | exact not_f (hq1 (by omega)).1 | exact bne_f (hq1 (by omega)).2 | exact dn_0 (by omega) | exact dn_1 (by omega) (by omega) | exact .inl ⟨rfl, rfl⟩ | exact fun _ => rfl | (rw [i64w (by simp; omega) (by simp; omega)]; simp; omega) | (apply Nat.ble_eq_true_of_le; simp; omega) | (apply Nat.ble_eq_true_of_le; omega) | (simp [Nat.blt_eq]; omega) | (simp; done) | (simp; omega) | rfl
    ·
      first | with_reducible assumption | exact rfl | exact hu | exact hu1 | exact hu2 | exact ho1.l | exact ho2.l | exact ho1.h | exact ho2.h | exact .inr (.inl rfl) | exact z0 | exact not_f (hq1 (by omega)).1 | exact bne_f (hq1 (by omega)).2 | exact dn_0 (by omega) | exact dn_1 (by omega) (by omega) | exact .inl ⟨rfl, rfl⟩ | exact fun _ => rfl | (rw [i64w (by simp; omega) (by simp; omega)]; simp; omega) | (apply Nat.ble_eq_true_of_le; simp; omega) | (apply Nat.ble_eq_true_of_le; omega) | (simp [Nat.blt_eq]; omega) | (simp; done) | (simp; omega) | exact fun _ => rfl
    ·
      first | with_reducible assumption | exact rfl | exact hu | exact hu1 | exact hu2 | exact ho1.l | exact ho2.l | exact ho1.h | exact ho2.h | exact .inr (.inl rfl) | exact z0 | exact not_f (hq1 (by omega)).1 | exact bne_f (hq1 (by omega)).2 | exact dn_0 (by omega) | exact dn_1 (by omega) (by omega) | exact .inl ⟨rfl, rfl⟩ | exact fun _ => rfl | (rw [i64w (by simp; omega) (by simp; omega)]; simp; omega) | (apply Nat.ble_eq_true_of_le; simp; omega) | (apply Nat.ble_eq_true_of_le; omega) | (simp [Nat.blt_eq]; omega) | (simp; done) | (simp; omega) | (apply Nat.ble_eq_true_of_le; omega) | (simp [Nat.blt_eq]; omega)
    ·
      first | with_reducible assumption | exact rfl | exact hu | exact hu1 | exact hu2 | exact ho1.l | exact ho2.l | exact ho1.h | exact ho2.h | exact .inr (.inl rfl) | exact z0 | exact not_f (hq1 (by omega)).1 | exact bne_f (hq1 (by omega)).2 | exact dn_0 (by omega) | exact dn_1 (by omega) (by omega) | exact .inl ⟨rfl, rfl⟩ | exact fun _ => rfl | (rw [i64w (by simp; omega) (by simp; omega)]; simp; omega) | (apply Nat.ble_eq_true_of_le; simp; omega) | (apply Nat.ble_eq_true_of_le; omega) | (simp [Nat.blt_eq]; omega) | (simp; done) | (simp; omega) | (apply Nat.ble_eq_true_of_le; omega) | (simp [Nat.blt_eq]; omega)
    ·
      first | with_reducible assumption | exact rfl | exact hu | exact hu1 | exact hu2 | exact ho1.l | exact ho2.l | exact ho1.h | exact ho2.h | exact .inr (.inl rfl) | exact z0 | exact not_f (hq1 (by omega)).1 | exact bne_f (hq1 (by omega)).2 | exact dn_0 (by omega) | exact dn_1 (by omega) (by omega) | exact .inl ⟨rfl, rfl⟩ | exact fun _ => rfl | (rw [i64w (by simp; omega) (by simp; omega)]; simp; omega) | (apply Nat.ble_eq_true_of_le; simp; omega) | (apply Nat.ble_eq_true_of_le; omega) | (simp [Nat.blt_eq]; omega) | (simp; done) | (simp; omega) | (apply Nat.ble_eq_true_of_le; omega) | (simp [Nat.blt_eq]; omega)
    ·
      first | with_reducible assumption | exact rfl | exact hu | exact hu1 | exact hu2 | exact ho1.l | exact ho2.l | exact ho1.h | exact ho2.h | exact .inr (.inl rfl) | exact z0 | exact not_f (hq1 (by omega)).1 | exact bne_f (hq1 (by omega)).2 | exact dn_0 (by omega) | exact dn_1 (by omega) (by omega) | exact .inl ⟨rfl, rfl⟩ | exact fun _ => rfl | (rw [i64w (by simp; omega) (by simp; omega)]; simp; omega) | (apply Nat.ble_eq_true_of_le; simp; omega) | (apply Nat.ble_eq_true_of_le; omega) | (simp [Nat.blt_eq]; omega) | (simp; done) | (simp; omega) | (apply Nat.ble_eq_true_of_le; omega) | (simp [Nat.blt_eq]; omega)
    ·
      first | with_reducible assumption | exact rfl | exact hu | exact hu1 | exact hu2 | exact ho1.l | exact ho2.l | exact ho1.h | exact ho2.h | exact .inr (.inl rfl) | exact z0 | exact not_f (hq1 (by omega)).1 | exact bne_f (hq1 (by omega)).2 | exact dn_0 (by omega) | exact dn_1 (by omega) (by omega) | exact .inl ⟨rfl, rfl⟩ | exact fun _ => rfl | (rw [i64w (by simp; omega) (by simp; omega)]; simp; omega) | (apply Nat.ble_eq_true_of_le; simp; omega) | (apply Nat.ble_eq_true_of_le; omega) | (simp [Nat.blt_eq]; omega) | (simp; done) | (simp; omega) | trivial
    ·
      first | with_reducible assumption | exact rfl | exact hu | exact hu1 | exact hu2 | exact ho1.l | exact ho2.l | exact ho1.h | exact ho2.h | exact .inr (.inl rfl) | exact z0 | exact not_f (hq1 (by omega)).1 | exact bne_f (hq1 (by omega)).2 | exact dn_0 (by omega) | exact dn_1 (by omega) (by omega) | exact .inl ⟨rfl, rfl⟩ | exact fun _ => rfl | (rw [i64w (by simp; omega) (by simp; omega)]; simp; omega) | (apply Nat.ble_eq_true_of_le; simp; omega) | (apply Nat.ble_eq_true_of_le; omega) | (simp [Nat.blt_eq]; omega) | (simp; done) | (simp; omega) | trivial
    ·
      first | with_reducible assumption | exact rfl | exact hu | exact hu1 | exact hu2 | exact ho1.l | exact ho2.l | exact ho1.h | exact ho2.h | exact .inr (.inl rfl) | exact z0 | exact not_f (hq1 (by omega)).1 | exact bne_f (hq1 (by omega)).2 | exact dn_0 (by omega) | exact dn_1 (by omega) (by omega) | exact .inl ⟨rfl, rfl⟩ | exact fun _ => rfl | (rw [i64w (by simp; omega) (by simp; omega)]; simp; omega) | (apply Nat.ble_eq_true_of_le; simp; omega) | (apply Nat.ble_eq_true_of_le; omega) | (simp [Nat.blt_eq]; omega) | (simp; done) | (simp; omega) | trivial
    ·
      first | with_reducible assumption | exact rfl | exact hu | exact hu1 | exact hu2 | exact ho1.l | exact ho2.l | exact ho1.h | exact ho2.h | exact .inr (.inl rfl) | exact z0 | exact not_f (hq1 (by omega)).1 | exact bne_f (hq1 (by omega)).2 | exact dn_0 (by omega) | exact dn_1 (by omega) (by omega) | exact .inl ⟨rfl, rfl⟩ | exact fun _ => rfl | (rw [i64w (by simp; omega) (by simp; omega)]; simp; omega) | (apply Nat.ble_eq_true_of_le; simp; omega) | (apply Nat.ble_eq_true_of_le; omega) | (simp [Nat.blt_eq]; omega) | (simp; done) | (simp; omega) | trivial
    ·
      first | with_reducible assumption | exact rfl | exact hu | exact hu1 | exact hu2 | exact ho1.l | exact ho2.l | exact ho1.h | exact ho2.h | exact .inr (.inl rfl) | exact z0 | exact not_f (hq1 (by omega)).1 | exact bne_f (hq1 (by omega)).2 | exact dn_0 (by omega) | exact dn_1 (by omega) (by omega) | exact .inl ⟨rfl, rfl⟩ | exact fun _ => rfl | (rw [i64w (by simp; omega) (by simp; omega)]; simp; omega) | (apply Nat.ble_eq_true_of_le; simp; omega) | (apply Nat.ble_eq_true_of_le; omega) | (simp [Nat.blt_eq]; omega) | (simp; done) | (simp; omega) | trivial
    ·
      first | with_reducible assumption | exact rfl | exact hu | exact hu1 | exact hu2 | exact ho1.l | exact ho2.l | exact ho1.h | exact ho2.h | exact .inr (.inl rfl) | exact z0 | exact not_f (hq1 (by omega)).1 | exact bne_f (hq1 (by omega)).2 | exact dn_0 (by omega) | exact dn_1 (by omega) (by omega) | exact .inl ⟨rfl, rfl⟩ | exact fun _ => rfl | (rw [i64w (by simp; omega) (by simp; omega)]; simp; omega) | (apply Nat.ble_eq_true_of_le; simp; omega) | (apply Nat.ble_eq_true_of_le; omega) | (simp [Nat.blt_eq]; omega) | (simp; done) | (simp; omega) | trivial
    ·
      first | with_reducible assumption | exact rfl | exact hu | exact hu1 | exact hu2 | exact ho1.l | exact ho2.l | exact ho1.h | exact ho2.h | exact .inr (.inl rfl) | exact z0 | exact not_f (hq1 (by omega)).1 | exact bne_f (hq1 (by omega)).2 | exact dn_0 (by omega) | exact dn_1 (by omega) (by omega) | exact .inl ⟨rfl, rfl⟩ | exact fun _ => rfl | (rw [i64w (by simp; omega) (by simp; omega)]; simp; omega) | (apply Nat.ble_eq_true_of_le; simp; omega) | (apply Nat.ble_eq_true_of_le; omega) | (simp [Nat.blt_eq]; omega) | (simp; done) | (simp; omega) | trivial
    ·
      first | with_reducible assumption | exact rfl | exact hu | exact hu1 | exact hu2 | exact ho1.l | exact ho2.l | exact ho1.h | exact ho2.h | exact .inr (.inl rfl) | exact z0 | exact not_f (hq1 (by omega)).1 | exact bne_f (hq1 (by omega)).2 | exact dn_0 (by omega) | exact dn_1 (by omega) (by omega) | exact .inl ⟨rfl, rfl⟩ | exact fun _ => rfl | (rw [i64w (by simp; omega) (by simp; omega)]; simp; omega) | (apply Nat.ble_eq_true_of_le; simp; omega) | (apply Nat.ble_eq_true_of_le; omega) | (simp [Nat.blt_eq]; omega) | (simp; done) | (simp; omega) | trivial
    ·
      first | with_reducible assumption | exact rfl | exact hu | exact hu1 | exact hu2 | exact ho1.l | exact ho2.l | exact ho1.h | exact ho2.h | exact .inr (.inl rfl) | exact z0 | exact not_f (hq1 (by omega)).1 | exact bne_f (hq1 (by omega)).2 | exact dn_0 (by omega) | exact dn_1 (by omega) (by omega) | exact .inl ⟨rfl, rfl⟩ | exact fun _ => rfl | (rw [i64w (by simp; omega) (by simp; omega)]; simp; omega) | (apply Nat.ble_eq_true_of_le; simp; omega) | (apply Nat.ble_eq_true_of_le; omega) | (simp [Nat.blt_eq]; omega) | (simp; done) | (simp; omega) | trivial
  | false =>
    have g1 := of_decide_eq_false h1
    try simp only [Int.ofNat_eq_natCast, ge_iff_le, gt_iff_lt, Int.not_lt, Int.not_le] at g1
    obtain rfl : k = ii := by omega
    refine round_exit (s0 := fkdU n k E S) (T := fun i => fkdT n k E S i) (i := k) (fkdr_2 ..) (by simp) (ob_cons rfl (ob_cons (Nat.le_refl _) (ob_cons (.inl ⟨rfl, rfl⟩) (ob_cons rfl (ob_cons rfl (ob_cons rfl (ob_cons rfl (ob_cons rfl (ob_cons rfl (ob_cons rfl (ob_cons rfl (ob_cons (fun _ => rfl) (ob_cons h1 ob_nil)))))))))))))
theorem fker_1 (n : Nat) (k : Nat) (E : Nat → Int) (S : MS) (o : PO) (p : PO) (q : PO) (b : UO) (a : PO) (ii : Nat) : roundB EFk 2000 fkeL ((fkeU n k E S o p q b a).hp) [] (fkeT n k E S o p q b a ii) [Hint.b true, Hint.b false, Hint.b false] (fkeT n k E S o p q b a (ii + 1)) =
 some (Ex.norm, [(0 : Nat) = 0,
 k = k,
 (none : Option Nat) = none,
 (0 : Nat) = 0,
 (0 : Nat) = 0,
 IntKind.i64.wrap (Int.ofNat k - 1 - Int.ofNat ii - 1) = Int.ofNat k - 1 - Int.ofNat (ii + 1),
 true = true,
 (1 : Nat) ≤ (1 : Nat),
 tabF tab = tabF tab ∧ plainSh (List.map kindOfV tab) = true ∨ ∀ (i : Nat), i < 1 → rowOb (List.map kindOfV tab) 0 (tabF tab i) (tabF tab i),
 false = false,
 n ≤ n,
 LF E = LF E ∧ plainSh [CK.int IntKind.i64] = true ∨ ∀ (i : Nat), i < n → rowOb [CK.int IntKind.i64] 0 (LF E i) (LF E i),
 (popY (popY (popY (fkD S ii) (PO.mk 1 0 0 0 false)) (popX (fkD S ii) (PO.mk 1 0 0 0 false))) (popX (popY (fkD S ii) (PO.mk 1 0 0 0 false)) (popX (fkD S ii) (PO.mk 1 0 0 0 false)))).st = (fkD S (ii + 1)).st,
 (popY (popY (popY (fkD S ii) (PO.mk 1 0 0 0 false)) (popX (fkD S ii) (PO.mk 1 0 0 0 false))) (popX (popY (fkD S ii) (PO.mk 1 0 0 0 false)) (popX (fkD S ii) (PO.mk 1 0 0 0 false)))).L.c = (fkD S (ii + 1)).L.c,
 (popY (popY (popY (fkD S ii) (PO.mk 1 0 0 0 false)) (popX (fkD S ii) (PO.mk 1 0 0 0 false))) (popX (popY (fkD S ii) (PO.mk 1 0 0 0 false)) (popX (fkD S ii) (PO.mk 1 0 0 0 false)))).L.k = (fkD S (ii + 1)).L.k,
 (popY (popY (popY (fkD S ii) (PO.mk 1 0 0 0 false)) (popX (fkD S ii) (PO.mk 1 0 0 0 false))) (popX (popY (fkD S ii) (PO.mk 1 0 0 0 false)) (popX (fkD S ii) (PO.mk 1 0 0 0 false)))).L.a = (fkD S (ii + 1)).L.a,
 (popY (popY (popY (fkD S ii) (PO.mk 1 0 0 0 false)) (popX (fkD S ii) (PO.mk 1 0 0 0 false))) (popX (popY (fkD S ii) (PO.mk 1 0 0 0 false)) (popX (fkD S ii) (PO.mk 1 0 0 0 false)))).L.f = (fkD S (ii + 1)).L.f,
 (popY (popY (popY (fkD S ii) (PO.mk 1 0 0 0 false)) (popX (fkD S ii) (PO.mk 1 0 0 0 false))) (popX (popY (fkD S ii) (PO.mk 1 0 0 0 false)) (popX (fkD S ii) (PO.mk 1 0 0 0 false)))).L.w = (fkD S (ii + 1)).L.w,
 (popY (popY (popY (fkD S ii) (PO.mk 1 0 0 0 false)) (popX (fkD S ii) (PO.mk 1 0 0 0 false))) (popX (popY (fkD S ii) (PO.mk 1 0 0 0 false)) (popX (fkD S ii) (PO.mk 1 0 0 0 false)))).L.i = (fkD S (ii + 1)).L.i,
 (popY (popY (popY (fkD S ii) (PO.mk 1 0 0 0 false)) (popX (fkD S ii) (PO.mk 1 0 0 0 false))) (popX (popY (fkD S ii) (PO.mk 1 0 0 0 false)) (popX (fkD S ii) (PO.mk 1 0 0 0 false)))).L.d = (fkD S (ii + 1)).L.d,
 ∀ (k : List Int), (popY (popY (popY (fkD S ii) (PO.mk 1 0 0 0 false)) (popX (fkD S ii) (PO.mk 1 0 0 0 false))) (popX (popY (fkD S ii) (PO.mk 1 0 0 0 false)) (popX (fkD S ii) (PO.mk 1 0 0 0 false)))).M k = (fkD S (ii + 1)).M k,
 ((popX (popY (popY (fkD S ii) (PO.mk 1 0 0 0 false)) (popX (fkD S ii) (PO.mk 1 0 0 0 false))) (popX (popY (fkD S ii) (PO.mk 1 0 0 0 false)) (popX (fkD S ii) (PO.mk 1 0 0 0 false)))).sl != E (0 + (Int.ofNat k - 1 - Int.ofNat ii).toNat)) = false,
 (0 + (Int.ofNat k - 1 - Int.ofNat ii).toNat).blt n = true,
 ((Int.ofNat k - 1 - Int.ofNat ii).toNat.blt k && decide (0 ≤ Int.ofNat k - 1 - Int.ofNat ii)) = true,
 (!(popX (popY (popY (fkD S ii) (PO.mk 1 0 0 0 false)) (popX (fkD S ii) (PO.mk 1 0 0 0 false))) (popX (popY (fkD S ii) (PO.mk 1 0 0 0 false)) (popX (fkD S ii) (PO.mk 1 0 0 0 false)))).ok) = false,
 tabF tab = tabF tab,
 U64 (popY (popY (fkD S ii) (PO.mk 1 0 0 0 false)) (popX (fkD S ii) (PO.mk 1 0 0 0 false))),
 Ln3 (popX (popY (fkD S ii) (PO.mk 1 0 0 0 false)) (popX (fkD S ii) (PO.mk 1 0 0 0 false))).ln,
 R64 (popX (popY (fkD S ii) (PO.mk 1 0 0 0 false)) (popX (fkD S ii) (PO.mk 1 0 0 0 false))).h,
 tabF tab = tabF tab,
 U64 (popY (fkD S ii) (PO.mk 1 0 0 0 false)),
 Ln3 (popX (fkD S ii) (PO.mk 1 0 0 0 false)).ln,
 R64 (popX (fkD S ii) (PO.mk 1 0 0 0 false)).h,
 tabF tab = tabF tab,
 U64 (fkD S ii),
 Ln3 1,
 R64 0,
 decide (Int.ofNat k - 1 - Int.ofNat ii ≥ 0) = true]) := by kernel_rfl
theorem fker_2 (n : Nat) (k : Nat) (E : Nat → Int) (S : MS) (o : PO) (p : PO) (q : PO) (b : UO) (a : PO) (ii : Nat) : roundB EFk 2000 fkeL ((fkeU n k E S o p q b a).hp) [] (fkeT n k E S o p q b a ii) [Hint.b false] (fkeX n k E S o p q b a ii) =
 some (Ex.exit 16, [true = true,
 (1 : Nat) ≤ (1 : Nat),
 tabF tab = tabF tab ∧ plainSh (List.map kindOfV tab) = true ∨ ∀ (i : Nat), i < 1 → rowOb (List.map kindOfV tab) 0 (tabF tab i) (tabF tab i),
 (fkD S ii).st = (fkD S ii).st,
 (fkD S ii).L.c = (fkD S ii).L.c,
 (fkD S ii).L.k = (fkD S ii).L.k,
 (fkD S ii).L.a = (fkD S ii).L.a,
 (fkD S ii).L.f = (fkD S ii).L.f,
 (fkD S ii).L.w = (fkD S ii).L.w,
 (fkD S ii).L.i = (fkD S ii).L.i,
 (fkD S ii).L.d = (fkD S ii).L.d,
 ∀ (k : List Int), (fkD S ii).M k = (fkD S ii).M k,
 decide (Int.ofNat k - 1 - Int.ofNat ii ≥ 0) = false]) := by kernel_rfl
theorem fkei_1 (n : Nat) (k : Nat) (E : Nat → Int) (S : MS) (o : PO) (p : PO) (q : PO) (b : UO) (a : PO) : castSt ((fkeU n k E S o p q b a).hp) [] (fkeU n k E S o p q b a) (fkeT n k E S o p q b a 0) =
 some ([(0 : Nat) = 0,
 k = k,
 (none : Option Nat) = none,
 (0 : Nat) = 0,
 (0 : Nat) = 0,
 IntKind.i64.wrap (Int.ofNat k - 1) = Int.ofNat k - 1 - 0,
 true = true,
 (1 : Nat) ≤ (1 : Nat),
 tabF tab = tabF tab ∧ plainSh (List.map kindOfV tab) = true ∨ ∀ (i : Nat), i < 1 → rowOb (List.map kindOfV tab) 0 (tabF tab i) (tabF tab i),
 false = false,
 n ≤ n,
 LF E = LF E ∧ plainSh [CK.int IntKind.i64] = true ∨ ∀ (i : Nat), i < n → rowOb [CK.int IntKind.i64] 0 (LF E i) (LF E i),
 S.st = (fkD S 0).st,
 S.L.c = (fkD S 0).L.c,
 S.L.k = (fkD S 0).L.k,
 S.L.a = (fkD S 0).L.a,
 S.L.f = (fkD S 0).L.f,
 S.L.w = (fkD S 0).L.w,
 S.L.i = (fkD S 0).L.i,
 S.L.d = (fkD S 0).L.d,
 ∀ (k : List Int), S.M k = (fkD S 0).M k]) := by kernel_rfl
theorem fke_lp (n : Nat) (k : Nat) (E : Nat → Int) (S : MS) (o : PO) (p : PO) (q : PO) (b : UO) (a : PO) (hk : k ≤ n) (hn : n ≤ 1000) (hu0 : U64 S) (hq : ∀ i, i < k → (ppO3 (fkD S i)).ok = true ∧ (ppO3 (fkD S i)).sl = E (0 + (Int.ofNat k - 1 - Int.ofNat i).toNat)) : fkeLP n k E S o p q b a := by
  refine loop_rule EFk_ok (I := Nat) (fun i => fkeT n k E S o p q b a i) (fun i => k - i) (fun i => i ≤ k) ?_ (fun ii hi => ?_)
  ·
    refine ⟨0, [], _, Nat.zero_le _, fkei_1 .., (ob_cons rfl (ob_cons rfl (ob_cons rfl (ob_cons rfl (ob_cons rfl (ob_cons ?_ (ob_cons rfl (ob_cons (Nat.le_refl _) (ob_cons (.inl ⟨rfl, rfl⟩) (ob_cons rfl (ob_cons (Nat.le_refl _) (ob_cons (.inl ⟨rfl, rfl⟩) (ob_cons ?_ (ob_cons ?_ (ob_cons ?_ (ob_cons ?_ (ob_cons ?_ (ob_cons ?_ (ob_cons ?_ (ob_cons ?_ (ob_cons ?_ ob_nil)))))))))))))))))))))⟩
    ·
      first | with_reducible assumption | exact rfl | exact hu | exact hu1 | exact hu2 | exact ho1.l | exact ho2.l | exact ho1.h | exact ho2.h | exact .inr (.inl rfl) | exact z0 | exact not_f (hq1 (by omega)).1 | exact bne_f (hq1 (by omega)).2 | exact dn_0 (by omega) | exact dn_1 (by omega) (by omega) | exact .inl ⟨rfl, rfl⟩ | exact fun _ => rfl | (rw [i64w (by simp; omega) (by simp; omega)]; simp; omega) | (apply Nat.ble_eq_true_of_le; simp; omega) | (apply Nat.ble_eq_true_of_le; omega) | (simp [Nat.blt_eq]; omega) | (simp; done) | (simp; omega) | exact wrap_nat64 _ (by simp; omega) (by simp; omega)
    ·
      first | with_reducible assumption | exact rfl | exact hu | exact hu1 | exact hu2 | exact ho1.l | exact ho2.l | exact ho1.h | exact ho2.h | exact .inr (.inl rfl) | exact z0 | exact not_f (hq1 (by omega)).1 | exact bne_f (hq1 (by omega)).2 | exact dn_0 (by omega) | exact dn_1 (by omega) (by omega) | exact .inl ⟨rfl, rfl⟩ | exact fun _ => rfl | (rw [i64w (by simp; omega) (by simp; omega)]; simp; omega) | (apply Nat.ble_eq_true_of_le; simp; omega) | (apply Nat.ble_eq_true_of_le; omega) | (simp [Nat.blt_eq]; omega) | (simp; done) | (simp; omega) | rfl
    ·
      first | with_reducible assumption | exact rfl | exact hu | exact hu1 | exact hu2 | exact ho1.l | exact ho2.l | exact ho1.h | exact ho2.h | exact .inr (.inl rfl) | exact z0 | exact not_f (hq1 (by omega)).1 | exact bne_f (hq1 (by omega)).2 | exact dn_0 (by omega) | exact dn_1 (by omega) (by omega) | exact .inl ⟨rfl, rfl⟩ | exact fun _ => rfl | (rw [i64w (by simp; omega) (by simp; omega)]; simp; omega) | (apply Nat.ble_eq_true_of_le; simp; omega) | (apply Nat.ble_eq_true_of_le; omega) | (simp [Nat.blt_eq]; omega) | (simp; done) | (simp; omega) | rfl
    ·
      first | with_reducible assumption | exact rfl | exact hu | exact hu1 | exact hu2 | exact ho1.l | exact ho2.l | exact ho1.h | exact ho2.h | exact .inr (.inl rfl) | exact z0 | exact not_f (hq1 (by omega)).1 | exact bne_f (hq1 (by omega)).2 | exact dn_0 (by omega) | exact dn_1 (by omega) (by omega) | exact .inl ⟨rfl, rfl⟩ | exact fun _ => rfl | (rw [i64w (by simp; omega) (by simp; omega)]; simp; omega) | (apply Nat.ble_eq_true_of_le; simp; omega) | (apply Nat.ble_eq_true_of_le; omega) | (simp [Nat.blt_eq]; omega) | (simp; done) | (simp; omega) | rfl
    ·
      first | with_reducible assumption | exact rfl | exact hu | exact hu1 | exact hu2 | exact ho1.l | exact ho2.l | exact ho1.h | exact ho2.h | exact .inr (.inl rfl) | exact z0 | exact not_f (hq1 (by omega)).1 | exact bne_f (hq1 (by omega)).2 | exact dn_0 (by omega) | exact dn_1 (by omega) (by omega) | exact .inl ⟨rfl, rfl⟩ | exact fun _ => rfl | (rw [i64w (by simp; omega) (by simp; omega)]; simp; omega) | (apply Nat.ble_eq_true_of_le; simp; omega) | (apply Nat.ble_eq_true_of_le; omega) | (simp [Nat.blt_eq]; omega) | (simp; done) | (simp; omega) | rfl
    ·
      first | with_reducible assumption | exact rfl | exact hu | exact hu1 | exact hu2 | exact ho1.l | exact ho2.l | exact ho1.h | exact ho2.h | exact .inr (.inl rfl) | exact z0 | exact not_f (hq1 (by omega)).1 | exact bne_f (hq1 (by omega)).2 | exact dn_0 (by omega) | exact dn_1 (by omega) (by omega) | exact .inl ⟨rfl, rfl⟩ | exact fun _ => rfl | (rw [i64w (by simp; omega) (by simp; omega)]; simp; omega) | (apply Nat.ble_eq_true_of_le; simp; omega) | (apply Nat.ble_eq_true_of_le; omega) | (simp [Nat.blt_eq]; omega) | (simp; done) | (simp; omega) | rfl
    ·
      first | with_reducible assumption | exact rfl | exact hu | exact hu1 | exact hu2 | exact ho1.l | exact ho2.l | exact ho1.h | exact ho2.h | exact .inr (.inl rfl) | exact z0 | exact not_f (hq1 (by omega)).1 | exact bne_f (hq1 (by omega)).2 | exact dn_0 (by omega) | exact dn_1 (by omega) (by omega) | exact .inl ⟨rfl, rfl⟩ | exact fun _ => rfl | (rw [i64w (by simp; omega) (by simp; omega)]; simp; omega) | (apply Nat.ble_eq_true_of_le; simp; omega) | (apply Nat.ble_eq_true_of_le; omega) | (simp [Nat.blt_eq]; omega) | (simp; done) | (simp; omega) | rfl
    ·
      first | with_reducible assumption | exact rfl | exact hu | exact hu1 | exact hu2 | exact ho1.l | exact ho2.l | exact ho1.h | exact ho2.h | exact .inr (.inl rfl) | exact z0 | exact not_f (hq1 (by omega)).1 | exact bne_f (hq1 (by omega)).2 | exact dn_0 (by omega) | exact dn_1 (by omega) (by omega) | exact .inl ⟨rfl, rfl⟩ | exact fun _ => rfl | (rw [i64w (by simp; omega) (by simp; omega)]; simp; omega) | (apply Nat.ble_eq_true_of_le; simp; omega) | (apply Nat.ble_eq_true_of_le; omega) | (simp [Nat.blt_eq]; omega) | (simp; done) | (simp; omega) | rfl
    ·
      first | with_reducible assumption | exact rfl | exact hu | exact hu1 | exact hu2 | exact ho1.l | exact ho2.l | exact ho1.h | exact ho2.h | exact .inr (.inl rfl) | exact z0 | exact not_f (hq1 (by omega)).1 | exact bne_f (hq1 (by omega)).2 | exact dn_0 (by omega) | exact dn_1 (by omega) (by omega) | exact .inl ⟨rfl, rfl⟩ | exact fun _ => rfl | (rw [i64w (by simp; omega) (by simp; omega)]; simp; omega) | (apply Nat.ble_eq_true_of_le; simp; omega) | (apply Nat.ble_eq_true_of_le; omega) | (simp [Nat.blt_eq]; omega) | (simp; done) | (simp; omega) | rfl
    ·
      first | with_reducible assumption | exact rfl | exact hu | exact hu1 | exact hu2 | exact ho1.l | exact ho2.l | exact ho1.h | exact ho2.h | exact .inr (.inl rfl) | exact z0 | exact not_f (hq1 (by omega)).1 | exact bne_f (hq1 (by omega)).2 | exact dn_0 (by omega) | exact dn_1 (by omega) (by omega) | exact .inl ⟨rfl, rfl⟩ | exact fun _ => rfl | (rw [i64w (by simp; omega) (by simp; omega)]; simp; omega) | (apply Nat.ble_eq_true_of_le; simp; omega) | (apply Nat.ble_eq_true_of_le; omega) | (simp [Nat.blt_eq]; omega) | (simp; done) | (simp; omega) | exact fun _ => rfl
  have hi : ii ≤ k := hi
  have hu := fkD_u hu0 ii
  have hu1 := (ppS_u hu).1
  have hu2 := (ppS_u hu).2.1
  have ho1 := (ppO_ok hu).1
  have ho2 := (ppO_ok hu).2
  have hq1 := hq ii
  cases h1 : (decide (Int.ofNat k - 1 - Int.ofNat ii ≥ 0)) with
  | true =>
    have g1 := of_decide_eq_true h1
    try simp only [Int.ofNat_eq_natCast, ge_iff_le, gt_iff_lt, Int.not_lt, Int.not_le] at g1
    refine round_norm (s0 := fkeU n k E S o p q b a) (T := fun i => fkeT n k E S o p q b a i) (i := ii) (ii + 1) (fker_1 ..) (ob_cons rfl (ob_cons rfl (ob_cons rfl (ob_cons rfl (ob_cons rfl (ob_cons ?_ (ob_cons rfl (ob_cons (Nat.le_refl _) (ob_cons (.inl ⟨rfl, rfl⟩) (ob_cons rfl (ob_cons (Nat.le_refl _) (ob_cons (.inl ⟨rfl, rfl⟩) (ob_cons ?_ (ob_cons ?_ (ob_cons ?_ (ob_cons ?_ (ob_cons ?_ (ob_cons ?_ (ob_cons ?_ (ob_cons ?_ (ob_cons ?_ (ob_cons ?_ (ob_cons ?_ (ob_cons ?_ (ob_cons ?_ (ob_cons rfl (ob_cons ?_ (ob_cons ?_ (ob_cons ?_ (ob_cons rfl (ob_cons ?_ (ob_cons ?_ (ob_cons ?_ (ob_cons rfl (ob_cons ?_ (ob_cons ?_ (ob_cons ?_ (ob_cons h1 ob_nil)))))))))))))))))))))))))))))))))))))) (by show ii + 1 ≤ k; omega) (by show k - (ii + 1) < k - ii; omega)
    ·
      first | with_reducible assumption | exact rfl | exact hu | exact hu1 | exact hu2 | exact ho1.l | exact ho2.l | exact ho1.h | exact ho2.h | exact .inr (.inl rfl) | exact z0 | exact not_f (hq1 (by omega)).1 | exact bne_f (hq1 (by omega)).2 | exact dn_0 (by omega) | exact dn_1 (by omega) (by omega) | exact .inl ⟨rfl, rfl⟩ | exact fun _ => rfl | (rw [i64w (by simp; omega) (by simp; omega)]; simp; omega) | (apply Nat.ble_eq_true_of_le; simp; omega) | (apply Nat.ble_eq_true_of_le; omega) | (simp [Nat.blt_eq]; omega) | (simp; done) | (simp; omega) | exact wrap_nat64 _ (by simp; omega) (by simp; omega)
    ·
      first | with_reducible assumption | exact rfl | exact hu | exact hu1 | exact hu2 | exact ho1.l | exact ho2.l | exact ho1.h | exact ho2.h | exact .inr (.inl rfl) | exact z0 | exact not_f (hq1 (by omega)).1 | exact bne_f (hq1 (by omega)).2 | exact dn_0 (by omega) | exact dn_1 (by omega) (by omega) | exact .inl ⟨rfl, rfl⟩ | exact fun _ => rfl | (rw [i64w (by simp; omega) (by simp; omega)]; simp; omega) | (apply Nat.ble_eq_true_of_le; simp; omega) | (apply Nat.ble_eq_true_of_le; omega) | (simp [Nat.blt_eq]; omega) | (simp; done) | (simp; omega) | rfl
    ·
      first | with_reducible assumption | exact rfl | exact hu | exact hu1 | exact hu2 | exact ho1.l | exact ho2.l | exact ho1.h | exact ho2.h | exact .inr (.inl rfl) | exact z0 | exact not_f (hq1 (by omega)).1 | exact bne_f (hq1 (by omega)).2 | exact dn_0 (by omega) | exact dn_1 (by omega) (by omega) | exact .inl ⟨rfl, rfl⟩ | exact fun _ => rfl | (rw [i64w (by simp; omega) (by simp; omega)]; simp; omega) | (apply Nat.ble_eq_true_of_le; simp; omega) | (apply Nat.ble_eq_true_of_le; omega) | (simp [Nat.blt_eq]; omega) | (simp; done) | (simp; omega) | rfl
    ·
      first | with_reducible assumption | exact rfl | exact hu | exact hu1 | exact hu2 | exact ho1.l | exact ho2.l | exact ho1.h | exact ho2.h | exact .inr (.inl rfl) | exact z0 | exact not_f (hq1 (by omega)).1 | exact bne_f (hq1 (by omega)).2 | exact dn_0 (by omega) | exact dn_1 (by omega) (by omega) | exact .inl ⟨rfl, rfl⟩ | exact fun _ => rfl | (rw [i64w (by simp; omega) (by simp; omega)]; simp; omega) | (apply Nat.ble_eq_true_of_le; simp; omega) | (apply Nat.ble_eq_true_of_le; omega) | (simp [Nat.blt_eq]; omega) | (simp; done) | (simp; omega) | rfl
    ·
      first | with_reducible assumption | exact rfl | exact hu | exact hu1 | exact hu2 | exact ho1.l | exact ho2.l | exact ho1.h | exact ho2.h | exact .inr (.inl rfl) | exact z0 | exact not_f (hq1 (by omega)).1 | exact bne_f (hq1 (by omega)).2 | exact dn_0 (by omega) | exact dn_1 (by omega) (by omega) | exact .inl ⟨rfl, rfl⟩ | exact fun _ => rfl | (rw [i64w (by simp; omega) (by simp; omega)]; simp; omega) | (apply Nat.ble_eq_true_of_le; simp; omega) | (apply Nat.ble_eq_true_of_le; omega) | (simp [Nat.blt_eq]; omega) | (simp; done) | (simp; omega) | rfl
    ·
      first | with_reducible assumption | exact rfl | exact hu | exact hu1 | exact hu2 | exact ho1.l | exact ho2.l | exact ho1.h | exact ho2.h | exact .inr (.inl rfl) | exact z0 | exact not_f (hq1 (by omega)).1 | exact bne_f (hq1 (by omega)).2 | exact dn_0 (by omega) | exact dn_1 (by omega) (by omega) | exact .inl ⟨rfl, rfl⟩ | exact fun _ => rfl | (rw [i64w (by simp; omega) (by simp; omega)]; simp; omega) | (apply Nat.ble_eq_true_of_le; simp; omega) | (apply Nat.ble_eq_true_of_le; omega) | (simp [Nat.blt_eq]; omega) | (simp; done) | (simp; omega) | rfl
    ·
      first | with_reducible assumption | exact rfl | exact hu | exact hu1 | exact hu2 | exact ho1.l | exact ho2.l | exact ho1.h | exact ho2.h | exact .inr (.inl rfl) | exact z0 | exact not_f (hq1 (by omega)).1 | exact bne_f (hq1 (by omega)).2 | exact dn_0 (by omega) | exact dn_1 (by omega) (by omega) | exact .inl ⟨rfl, rfl⟩ | exact fun _ => rfl | (rw [i64w (by simp; omega) (by simp; omega)]; simp; omega) | (apply Nat.ble_eq_true_of_le; simp; omega) | (apply Nat.ble_eq_true_of_le; omega) | (simp [Nat.blt_eq]; omega) | (simp; done) | (simp; omega) | rfl
    ·
      first | with_reducible assumption | exact rfl | exact hu | exact hu1 | exact hu2 | exact ho1.l | exact ho2.l | exact ho1.h | exact ho2.h | exact .inr (.inl rfl) | exact z0 | exact not_f (hq1 (by omega)).1 | exact bne_f (hq1 (by omega)).2 | exact dn_0 (by omega) | exact dn_1 (by omega) (by omega) | exact .inl ⟨rfl, rfl⟩ | exact fun _ => rfl | (rw [i64w (by simp; omega) (by simp; omega)]; simp; omega) | (apply Nat.ble_eq_true_of_le; simp; omega) | (apply Nat.ble_eq_true_of_le; omega) | (simp [Nat.blt_eq]; omega) | (simp; done) | (simp; omega) | rfl
    ·
      first | with_reducible assumption | exact rfl | exact hu | exact hu1 | exact hu2 | exact ho1.l | exact ho2.l | exact ho1.h | exact ho2.h | exact .inr (.inl rfl) | exact z0 | exact not_f (hq1 (by omega)).1 | exact bne_f (hq1 (by omega)).2 | exact dn_0 (by omega) | exact dn_1 (by omega) (by omega) | exact .inl ⟨rfl, rfl⟩ | exact fun _ => rfl | (rw [i64w (by simp; omega) (by simp; omega)]; simp; omega) | (apply Nat.ble_eq_true_of_le; simp; omega) | (apply Nat.ble_eq_true_of_le; omega) | (simp [Nat.blt_eq]; omega) | (simp; done) | (simp; omega) | rfl
    ·
      first | with_reducible assumption | exact rfl | exact hu | exact hu1 | exact hu2 | exact ho1.l | exact ho2.l | exact ho1.h | exact ho2.h | exact .inr (.inl rfl) | exact z0 | exact not_f (hq1 (by omega)).1 | exact bne_f (hq1 (by omega)).2 | exact dn_0 (by omega) | exact dn_1 (by omega) (by omega) | exact .inl ⟨rfl, rfl⟩ | exact fun _ => rfl | (rw [i64w (by simp; omega) (by simp; omega)]; simp; omega) | (apply Nat.ble_eq_true_of_le; simp; omega) | (apply Nat.ble_eq_true_of_le; omega) | (simp [Nat.blt_eq]; omega) | (simp; done) | (simp; omega) | exact fun _ => rfl
    ·
      first | with_reducible assumption | exact rfl | exact hu | exact hu1 | exact hu2 | exact ho1.l | exact ho2.l | exact ho1.h | exact ho2.h | exact .inr (.inl rfl) | exact z0 | exact not_f (hq1 (by omega)).1 | exact bne_f (hq1 (by omega)).2 | exact dn_0 (by omega) | exact dn_1 (by omega) (by omega) | exact .inl ⟨rfl, rfl⟩ | exact fun _ => rfl | (rw [i64w (by simp; omega) (by simp; omega)]; simp; omega) | (apply Nat.ble_eq_true_of_le; simp; omega) | (apply Nat.ble_eq_true_of_le; omega) | (simp [Nat.blt_eq]; omega) | (simp; done) | (simp; omega) | (apply Nat.ble_eq_true_of_le; omega) | (simp [Nat.blt_eq]; omega)
    ·
      first | with_reducible assumption | exact rfl | exact hu | exact hu1 | exact hu2 | exact ho1.l | exact ho2.l | exact ho1.h | exact ho2.h | exact .inr (.inl rfl) | exact z0 | exact not_f (hq1 (by omega)).1 | exact bne_f (hq1 (by omega)).2 | exact dn_0 (by omega) | exact dn_1 (by omega) (by omega) | exact .inl ⟨rfl, rfl⟩ | exact fun _ => rfl | (rw [i64w (by simp; omega) (by simp; omega)]; simp; omega) | (apply Nat.ble_eq_true_of_le; simp; omega) | (apply Nat.ble_eq_true_of_le; omega) | (simp [Nat.blt_eq]; omega) | (simp; done) | (simp; omega) | (apply Nat.ble_eq_true_of_le; omega) | (simp [Nat.blt_eq]; omega)
    ·
      first | with_reducible assumption | exact rfl | exact hu | exact hu1 | exact hu2 | exact ho1.l | exact ho2.l | exact ho1.h | exact ho2.h | exact .inr (.inl rfl) | exact z0 | exact not_f (hq1 (by omega)).1 | exact bne_f (hq1 (by omega)).2 | exact dn_0 (by omega) | exact dn_1 (by omega) (by omega) | exact .inl ⟨rfl, rfl⟩ | exact fun _ => rfl | (rw [i64w (by simp; omega) (by simp; omega)]; simp; omega) | (apply Nat.ble_eq_true_of_le; simp; omega) | (apply Nat.ble_eq_true_of_le; omega) | (simp [Nat.blt_eq]; omega) | (simp; done) | (simp; omega) | (apply Nat.ble_eq_true_of_le; omega) | (simp [Nat.blt_eq]; omega)
    ·
      first | with_reducible assumption | exact rfl | exact hu | exact hu1 | exact hu2 | exact ho1.l | exact ho2.l | exact ho1.h | exact ho2.h | exact .inr (.inl rfl) | exact z0 | exact not_f (hq1 (by omega)).1 | exact bne_f (hq1 (by omega)).2 | exact dn_0 (by omega) | exact dn_1 (by omega) (by omega) | exact .inl ⟨rfl, rfl⟩ | exact fun _ => rfl | (rw [i64w (by simp; omega) (by simp; omega)]; simp; omega) | (apply Nat.ble_eq_true_of_le; simp; omega) | (apply Nat.ble_eq_true_of_le; omega) | (simp [Nat.blt_eq]; omega) | (simp; done) | (simp; omega) | (apply Nat.ble_eq_true_of_le; omega) | (simp [Nat.blt_eq]; omega)
    ·
      first | with_reducible assumption | exact rfl | exact hu | exact hu1 | exact hu2 | exact ho1.l | exact ho2.l | exact ho1.h | exact ho2.h | exact .inr (.inl rfl) | exact z0 | exact not_f (hq1 (by omega)).1 | exact bne_f (hq1 (by omega)).2 | exact dn_0 (by omega) | exact dn_1 (by omega) (by omega) | exact .inl ⟨rfl, rfl⟩ | exact fun _ => rfl | (rw [i64w (by simp; omega) (by simp; omega)]; simp; omega) | (apply Nat.ble_eq_true_of_le; simp; omega) | (apply Nat.ble_eq_true_of_le; omega) | (simp [Nat.blt_eq]; omega) | (simp; done) | (simp; omega) | trivial
    ·
      first | with_reducible assumption | exact rfl | exact hu | exact hu1 | exact hu2 | exact ho1.l | exact ho2.l | exact ho1.h | exact ho2.h | exact .inr (.inl rfl) | exact z0 | exact not_f (hq1 (by omega)).1 | exact bne_f (hq1 (by omega)).2 | exact dn_0 (by omega) | exact dn_1 (by omega) (by omega) | exact .inl ⟨rfl, rfl⟩ | exact fun _ => rfl | (rw [i64w (by simp; omega) (by simp; omega)]; simp; omega) | (apply Nat.ble_eq_true_of_le; simp; omega) | (apply Nat.ble_eq_true_of_le; omega) | (simp [Nat.blt_eq]; omega) | (simp; done) | (simp; omega) | trivial
    ·
      first | with_reducible assumption | exact rfl | exact hu | exact hu1 | exact hu2 | exact ho1.l | exact ho2.l | exact ho1.h | exact ho2.h | exact .inr (.inl rfl) | exact z0 | exact not_f (hq1 (by omega)).1 | exact bne_f (hq1 (by omega)).2 | exact dn_0 (by omega) | exact dn_1 (by omega) (by omega) | exact .inl ⟨rfl, rfl⟩ | exact fun _ => rfl | (rw [i64w (by simp; omega) (by simp; omega)]; simp; omega) | (apply Nat.ble_eq_true_of_le; simp; omega) | (apply Nat.ble_eq_true_of_le; omega) | (simp [Nat.blt_eq]; omega) | (simp; done) | (simp; omega) | trivial
    ·
      first | with_reducible assumption | exact rfl | exact hu | exact hu1 | exact hu2 | exact ho1.l | exact ho2.l | exact ho1.h | exact ho2.h | exact .inr (.inl rfl) | exact z0 | exact not_f (hq1 (by omega)).1 | exact bne_f (hq1 (by omega)).2 | exact dn_0 (by omega) | exact dn_1 (by omega) (by omega) | exact .inl ⟨rfl, rfl⟩ | exact fun _ => rfl | (rw [i64w (by simp; omega) (by simp; omega)]; simp; omega) | (apply Nat.ble_eq_true_of_le; simp; omega) | (apply Nat.ble_eq_true_of_le; omega) | (simp [Nat.blt_eq]; omega) | (simp; done) | (simp; omega) | trivial
    ·
      first | with_reducible assumption | exact rfl | exact hu | exact hu1 | exact hu2 | exact ho1.l | exact ho2.l | exact ho1.h | exact ho2.h | exact .inr (.inl rfl) | exact z0 | exact not_f (hq1 (by omega)).1 | exact bne_f (hq1 (by omega)).2 | exact dn_0 (by omega) | exact dn_1 (by omega) (by omega) | exact .inl ⟨rfl, rfl⟩ | exact fun _ => rfl | (rw [i64w (by simp; omega) (by simp; omega)]; simp; omega) | (apply Nat.ble_eq_true_of_le; simp; omega) | (apply Nat.ble_eq_true_of_le; omega) | (simp [Nat.blt_eq]; omega) | (simp; done) | (simp; omega) | trivial
    ·
      first | with_reducible assumption | exact rfl | exact hu | exact hu1 | exact hu2 | exact ho1.l | exact ho2.l | exact ho1.h | exact ho2.h | exact .inr (.inl rfl) | exact z0 | exact not_f (hq1 (by omega)).1 | exact bne_f (hq1 (by omega)).2 | exact dn_0 (by omega) | exact dn_1 (by omega) (by omega) | exact .inl ⟨rfl, rfl⟩ | exact fun _ => rfl | (rw [i64w (by simp; omega) (by simp; omega)]; simp; omega) | (apply Nat.ble_eq_true_of_le; simp; omega) | (apply Nat.ble_eq_true_of_le; omega) | (simp [Nat.blt_eq]; omega) | (simp; done) | (simp; omega) | trivial
    ·
      first | with_reducible assumption | exact rfl | exact hu | exact hu1 | exact hu2 | exact ho1.l | exact ho2.l | exact ho1.h | exact ho2.h | exact .inr (.inl rfl) | exact z0 | exact not_f (hq1 (by omega)).1 | exact bne_f (hq1 (by omega)).2 | exact dn_0 (by omega) | exact dn_1 (by omega) (by omega) | exact .inl ⟨rfl, rfl⟩ | exact fun _ => rfl | (rw [i64w (by simp; omega) (by simp; omega)]; simp; omega) | (apply Nat.ble_eq_true_of_le; simp; omega) | (apply Nat.ble_eq_true_of_le; omega) | (simp [Nat.blt_eq]; omega) | (simp; done) | (simp; omega) | trivial
    ·
      first | with_reducible assumption | exact rfl | exact hu | exact hu1 | exact hu2 | exact ho1.l | exact ho2.l | exact ho1.h | exact ho2.h | exact .inr (.inl rfl) | exact z0 | exact not_f (hq1 (by omega)).1 | exact bne_f (hq1 (by omega)).2 | exact dn_0 (by omega) | exact dn_1 (by omega) (by omega) | exact .inl ⟨rfl, rfl⟩ | exact fun _ => rfl | (rw [i64w (by simp; omega) (by simp; omega)]; simp; omega) | (apply Nat.ble_eq_true_of_le; simp; omega) | (apply Nat.ble_eq_true_of_le; omega) | (simp [Nat.blt_eq]; omega) | (simp; done) | (simp; omega) | trivial
    ·
      first | with_reducible assumption | exact rfl | exact hu | exact hu1 | exact hu2 | exact ho1.l | exact ho2.l | exact ho1.h | exact ho2.h | exact .inr (.inl rfl) | exact z0 | exact not_f (hq1 (by omega)).1 | exact bne_f (hq1 (by omega)).2 | exact dn_0 (by omega) | exact dn_1 (by omega) (by omega) | exact .inl ⟨rfl, rfl⟩ | exact fun _ => rfl | (rw [i64w (by simp; omega) (by simp; omega)]; simp; omega) | (apply Nat.ble_eq_true_of_le; simp; omega) | (apply Nat.ble_eq_true_of_le; omega) | (simp [Nat.blt_eq]; omega) | (simp; done) | (simp; omega) | trivial
  | false =>
    have g1 := of_decide_eq_false h1
    try simp only [Int.ofNat_eq_natCast, ge_iff_le, gt_iff_lt, Int.not_lt, Int.not_le] at g1
    obtain rfl : k = ii := by omega
    refine round_exit (s0 := fkeU n k E S o p q b a) (T := fun i => fkeT n k E S o p q b a i) (i := k) (fker_2 ..) (by simp) (ob_cons rfl (ob_cons (Nat.le_refl _) (ob_cons (.inl ⟨rfl, rfl⟩) (ob_cons rfl (ob_cons rfl (ob_cons rfl (ob_cons rfl (ob_cons rfl (ob_cons rfl (ob_cons rfl (ob_cons rfl (ob_cons (fun _ => rfl) (ob_cons h1 ob_nil)))))))))))))
end Go.Proofs.YtmndhjodbnojdaaDoor
