/-
  FreesStack: the first loop.
-/
import Derived.Test.YtmndhjodbnojdaaDoorJFkaDef
set_option linter.unusedSimpArgs false
set_option linter.unusedVariables false
namespace Go.Proofs.YtmndhjodbnojdaaDoor
open Go.Ev
theorem fkar_1 (m : Nat) (f : Nat → Nat → AV) (ii : Nat) : roundB EFk 2000 fkaL ((fkaU m f).hp) [(2, Src.nm 4)] (fkaT m f ii) [Hint.b true, Hint.lp [0, 2, 3, 4, 5, 6] (Ex.exit 2) (fkiX m f (ddN f ii).length (LI (ddN f ii)) ii (ddN f ii).length).tmps (fkiX m f (ddN f ii).length (LI (ddN f ii)) ii (ddN f ii).length).hp.heap 3 [], Hint.b true] (fkaT m f (ii + 1)) =
 some (Ex.norm, [(0 : Nat) = 0,
 m = m,
 (none : Option Nat) = none,
 (0 : Nat) = 0,
 (ddN f ii).length + 1 = (ddN f (ii + 1)).length,
 (none : Option Nat) = none,
 IntKind.i64.wrap (Int.ofNat ii + 1) = Int.ofNat (ii + 1),
 true = true,
 (1 : Nat) ≤ (1 : Nat),
 tabF tab = tabF tab ∧ plainSh (List.map kindOfV tab) = true ∨ ∀ (i : Nat), i < 1 → rowOb (List.map kindOfV tab) 0 (tabF tab i) (tabF tab i),
 true = true,
 m ≤ m,
 f = f ∧ plainSh [CK.int IntKind.u8] = true ∨ ∀ (i : Nat), i < m → rowOb [CK.int IntKind.u8] 0 (f i) (f i),
 false = false,
 (ddN f (ii + 1)).length ≤ (ddN f ii).length + 1,
 (LF (LI (ddN f (ii + 1))) = fun i j => if i < (ddN f ii).length then LF (LI (ddN f ii)) (0 + i) j else rowsOf 1 [mkI IntKind.i64 false (IntKind.i64.wrap (avInt (f (0 + ii) 0)))] (i - (ddN f ii).length) j) ∧ plainSh [CK.int IntKind.i64] = true ∨ ∀ (i : Nat), i < (ddN f (ii + 1)).length → rowOb [CK.int IntKind.i64] 0 (fun j => if i < (ddN f ii).length then LF (LI (ddN f ii)) (0 + i) j else rowsOf 1 [mkI IntKind.i64 false (IntKind.i64.wrap (avInt (f (0 + ii) 0)))] (i - (ddN f ii).length) j) (LF (LI (ddN f (ii + 1))) i),
 (((ddN f ii).length + 1) * 8).ble 70368744177664 = true,
 (0 + (ddN f ii).length).ble (ddN f ii).length = true,
 (0 + ii).blt m = true,
 (ii.blt m && decide (0 ≤ Int.ofNat ii)) = true,
 (!hadB (LI (ddN f ii)) (IntKind.i64.wrap (avInt (f (0 + ii) 0))) (ddN f ii).length) = true,
 fkiLP m f (ddN f ii).length (LI (ddN f ii)) ii,
 decide (Int.ofNat ii < Int.ofNat m) = true]) := by kernel_rfl
theorem fkar_2 (m : Nat) (f : Nat → Nat → AV) (ii : Nat) : roundB EFk 2000 fkaL ((fkaU m f).hp) [(2, Src.nm 2)] (fkaT m f ii) [Hint.b true, Hint.lp [0, 2, 3, 4, 5, 6] (Ex.exit 2) (fkiX m f (ddN f ii).length (LI (ddN f ii)) ii (ddN f ii).length).tmps (fkiX m f (ddN f ii).length (LI (ddN f ii)) ii (ddN f ii).length).hp.heap 3 [], Hint.b false] (fkaT m f (ii + 1)) =
 some (Ex.norm, [(0 : Nat) = 0,
 m = m,
 (none : Option Nat) = none,
 (0 : Nat) = 0,
 (ddN f ii).length = (ddN f (ii + 1)).length,
 (none : Option Nat) = none,
 IntKind.i64.wrap (Int.ofNat ii + 1) = Int.ofNat (ii + 1),
 true = true,
 (1 : Nat) ≤ (1 : Nat),
 tabF tab = tabF tab ∧ plainSh (List.map kindOfV tab) = true ∨ ∀ (i : Nat), i < 1 → rowOb (List.map kindOfV tab) 0 (tabF tab i) (tabF tab i),
 true = true,
 m ≤ m,
 f = f ∧ plainSh [CK.int IntKind.u8] = true ∨ ∀ (i : Nat), i < m → rowOb [CK.int IntKind.u8] 0 (f i) (f i),
 false = false,
 (ddN f (ii + 1)).length ≤ (ddN f ii).length,
 LF (LI (ddN f (ii + 1))) = LF (LI (ddN f ii)) ∧ plainSh [CK.int IntKind.i64] = true ∨ ∀ (i : Nat), i < (ddN f (ii + 1)).length → rowOb [CK.int IntKind.i64] 0 (LF (LI (ddN f ii)) i) (LF (LI (ddN f (ii + 1))) i),
 (!hadB (LI (ddN f ii)) (IntKind.i64.wrap (avInt (f (0 + ii) 0))) (ddN f ii).length) = false,
 fkiLP m f (ddN f ii).length (LI (ddN f ii)) ii,
 decide (Int.ofNat ii < Int.ofNat m) = true]) := by kernel_rfl
theorem fkar_3 (m : Nat) (f : Nat → Nat → AV) (ii : Nat) : roundB EFk 2000 fkaL ((fkaU m f).hp) [(2, Src.nm 2)] (fkaT m f ii) [Hint.b false] (fkaX m f ii) =
 some (Ex.exit 0, [(0 : Nat) = 0,
 m = m,
 (none : Option Nat) = none,
 (0 : Nat) = 0,
 (ddN f ii).length = (ddN f ii).length,
 (none : Option Nat) = none,
 true = true,
 (1 : Nat) ≤ (1 : Nat),
 tabF tab = tabF tab ∧ plainSh (List.map kindOfV tab) = true ∨ ∀ (i : Nat), i < 1 → rowOb (List.map kindOfV tab) 0 (tabF tab i) (tabF tab i),
 true = true,
 m ≤ m,
 f = f ∧ plainSh [CK.int IntKind.u8] = true ∨ ∀ (i : Nat), i < m → rowOb [CK.int IntKind.u8] 0 (f i) (f i),
 false = false,
 (ddN f ii).length ≤ (ddN f ii).length,
 LF (LI (ddN f ii)) = LF (LI (ddN f ii)) ∧ plainSh [CK.int IntKind.i64] = true ∨ ∀ (i : Nat), i < (ddN f ii).length → rowOb [CK.int IntKind.i64] 0 (LF (LI (ddN f ii)) i) (LF (LI (ddN f ii)) i),
 decide (Int.ofNat ii < Int.ofNat m) = false]) := by kernel_rfl
theorem fkai_1 (m : Nat) (f : Nat → Nat → AV) : castSt ((fkaU m f).hp) [(2, Src.nil 1)] (fkaU m f) (fkaT m f 0) =
 some ([(0 : Nat) = 0,
 m = m,
 (none : Option Nat) = none,
 (0 : Nat) = 0,
 (0 : Nat) = 0,
 (none : Option Nat) = none,
 (0 : Int) = 0,
 true = true,
 (1 : Nat) ≤ (1 : Nat),
 tabF tab = tabF tab ∧ plainSh (List.map kindOfV tab) = true ∨ ∀ (i : Nat), i < 1 → rowOb (List.map kindOfV tab) 0 (tabF tab i) (tabF tab i),
 true = true,
 m ≤ m,
 f = f ∧ plainSh [CK.int IntKind.u8] = true ∨ ∀ (i : Nat), i < m → rowOb [CK.int IntKind.u8] 0 (f i) (f i),
 (0 : Nat) = 0]) := by kernel_rfl
theorem fka_lp (m : Nat) (f : Nat → Nat → AV) (hm : m ≤ 60) : fkaLP m f := by
  refine loop_rule EFk_ok (I := Nat) (fun i => fkaT m f i) (fun i => m - i) (fun i => i ≤ m) ?_ (fun ii hi => ?_)
  ·
    refine ⟨0, [(2, Src.nil 1)], _, Nat.zero_le _, fkai_1 .., (ob_cons rfl (ob_cons rfl (ob_cons rfl (ob_cons rfl (ob_cons rfl (ob_cons rfl (ob_cons rfl (ob_cons rfl (ob_cons (Nat.le_refl _) (ob_cons (.inl ⟨rfl, rfl⟩) (ob_cons rfl (ob_cons (Nat.le_refl _) (ob_cons (.inl ⟨rfl, rfl⟩) (ob_cons rfl ob_nil))))))))))))))⟩
  have hi : ii ≤ m := hi
  have hL := ddN_len f ii
  have hlp : ii < m → fkiLP m f (ddN f ii).length (LI (ddN f ii)) ii := fun h => fki_lp m f (ddN f ii).length (LI (ddN f ii)) ii h (by omega)
  cases h1 : (decide (Int.ofNat ii < Int.ofNat m)) with
  | true =>
    have g1 := of_decide_eq_true h1
    try simp only [Int.ofNat_eq_natCast, ge_iff_le, gt_iff_lt, Int.not_lt, Int.not_le] at g1
    cases h2 : (!hadB (LI (ddN f ii)) (IntKind.i64.wrap (avInt (f (0 + ii) 0))) (ddN f ii).length) with
    | true =>
      refine round_norm (s0 := fkaU m f) (T := fun i => fkaT m f i) (i := ii) (ii + 1) (fkar_1 ..) (ob_cons rfl (ob_cons rfl (ob_cons rfl (ob_cons rfl (ob_cons ?_ (ob_cons rfl (ob_cons ?_ (ob_cons rfl (ob_cons (Nat.le_refl _) (ob_cons (.inl ⟨rfl, rfl⟩) (ob_cons rfl (ob_cons (Nat.le_refl _) (ob_cons (.inl ⟨rfl, rfl⟩) (ob_cons rfl (ob_cons ?_ (ob_cons ?_ (ob_cons ?_ (ob_cons ?_ (ob_cons ?_ (ob_cons ?_ (ob_cons h2 (ob_cons ?_ (ob_cons h1 ob_nil))))))))))))))))))))))) (by show ii + 1 ≤ m; omega) (by show m - (ii + 1) < m - ii; omega)
      ·
        first | with_reducible assumption | exact rfl | exact hlp g1 | exact hlp (by omega) | exact .inl ⟨rfl, rfl⟩ | (rw [ddN_n h2]; done) | (rw [ddN_n h2]; exact Nat.le_refl _) | (rw [ddN_n h2]; exact .inl ⟨rfl, rfl⟩) | (rw [ddN_y h2]; simp; done) | (rw [ddN_y h2]; exact .inr dd_rows) | (apply Nat.ble_eq_true_of_le; omega) | (simp [Nat.blt_eq]; omega) | (simp; done) | (simp; omega) | rfl
      ·
        first | with_reducible assumption | exact rfl | exact hlp g1 | exact hlp (by omega) | exact .inl ⟨rfl, rfl⟩ | (rw [ddN_n h2]; done) | (rw [ddN_n h2]; exact Nat.le_refl _) | (rw [ddN_n h2]; exact .inl ⟨rfl, rfl⟩) | (rw [ddN_y h2]; simp; done) | (rw [ddN_y h2]; exact .inr dd_rows) | (apply Nat.ble_eq_true_of_le; omega) | (simp [Nat.blt_eq]; omega) | (simp; done) | (simp; omega) | exact wrap_nat64 _ (by simp; omega) (by simp; omega)
      ·
        first | with_reducible assumption | exact rfl | exact hlp g1 | exact hlp (by omega) | exact .inl ⟨rfl, rfl⟩ | (rw [ddN_n h2]; done) | (rw [ddN_n h2]; exact Nat.le_refl _) | (rw [ddN_n h2]; exact .inl ⟨rfl, rfl⟩) | (rw [ddN_y h2]; simp; done) | (rw [ddN_y h2]; exact .inr dd_rows) | (apply Nat.ble_eq_true_of_le; omega) | (simp [Nat.blt_eq]; omega) | (simp; done) | (simp; omega) | exact Nat.le_refl _ | omega
      ·
        first | with_reducible assumption | exact rfl | exact hlp g1 | exact hlp (by omega) | exact .inl ⟨rfl, rfl⟩ | (rw [ddN_n h2]; done) | (rw [ddN_n h2]; exact Nat.le_refl _) | (rw [ddN_n h2]; exact .inl ⟨rfl, rfl⟩) | (rw [ddN_y h2]; simp; done) | (rw [ddN_y h2]; exact .inr dd_rows) | (apply Nat.ble_eq_true_of_le; omega) | (simp [Nat.blt_eq]; omega) | (simp; done) | (simp; omega) | exact .inl ⟨rfl, rfl⟩
      ·
        first | with_reducible assumption | exact rfl | exact hlp g1 | exact hlp (by omega) | exact .inl ⟨rfl, rfl⟩ | (rw [ddN_n h2]; done) | (rw [ddN_n h2]; exact Nat.le_refl _) | (rw [ddN_n h2]; exact .inl ⟨rfl, rfl⟩) | (rw [ddN_y h2]; simp; done) | (rw [ddN_y h2]; exact .inr dd_rows) | (apply Nat.ble_eq_true_of_le; omega) | (simp [Nat.blt_eq]; omega) | (simp; done) | (simp; omega) | (apply Nat.ble_eq_true_of_le; omega) | (simp [Nat.blt_eq]; omega)
      ·
        first | with_reducible assumption | exact rfl | exact hlp g1 | exact hlp (by omega) | exact .inl ⟨rfl, rfl⟩ | (rw [ddN_n h2]; done) | (rw [ddN_n h2]; exact Nat.le_refl _) | (rw [ddN_n h2]; exact .inl ⟨rfl, rfl⟩) | (rw [ddN_y h2]; simp; done) | (rw [ddN_y h2]; exact .inr dd_rows) | (apply Nat.ble_eq_true_of_le; omega) | (simp [Nat.blt_eq]; omega) | (simp; done) | (simp; omega) | (apply Nat.ble_eq_true_of_le; omega) | (simp [Nat.blt_eq]; omega)
      ·
        first | with_reducible assumption | exact rfl | exact hlp g1 | exact hlp (by omega) | exact .inl ⟨rfl, rfl⟩ | (rw [ddN_n h2]; done) | (rw [ddN_n h2]; exact Nat.le_refl _) | (rw [ddN_n h2]; exact .inl ⟨rfl, rfl⟩) | (rw [ddN_y h2]; simp; done) | (rw [ddN_y h2]; exact .inr dd_rows) | (apply Nat.ble_eq_true_of_le; omega) | (simp [Nat.blt_eq]; omega) | (simp; done) | (simp; omega) | (apply Nat.ble_eq_true_of_le; omega) | (simp [Nat.blt_eq]; omega)
      ·
        first | with_reducible assumption | exact rfl | exact hlp g1 | exact hlp (by omega) | exact .inl ⟨rfl, rfl⟩ | (rw [ddN_n h2]; done) | (rw [ddN_n h2]; exact Nat.le_refl _) | (rw [ddN_n h2]; exact .inl ⟨rfl, rfl⟩) | (rw [ddN_y h2]; simp; done) | (rw [ddN_y h2]; exact .inr dd_rows) | (apply Nat.ble_eq_true_of_le; omega) | (simp [Nat.blt_eq]; omega) | (simp; done) | (simp; omega) | (apply Nat.ble_eq_true_of_le; omega) | (simp [Nat.blt_eq]; omega)
      ·
        first | with_reducible assumption | exact rfl | exact hlp g1 | exact hlp (by omega) | exact .inl ⟨rfl, rfl⟩ | (rw [ddN_n h2]; done) | (rw [ddN_n h2]; exact Nat.le_refl _) | (rw [ddN_n h2]; exact .inl ⟨rfl, rfl⟩) | (rw [ddN_y h2]; simp; done) | (rw [ddN_y h2]; exact .inr dd_rows) | (apply Nat.ble_eq_true_of_le; omega) | (simp [Nat.blt_eq]; omega) | (simp; done) | (simp; omega) | trivial
    | false =>
      refine round_norm (s0 := fkaU m f) (T := fun i => fkaT m f i) (i := ii) (ii + 1) (fkar_2 ..) (ob_cons rfl (ob_cons rfl (ob_cons rfl (ob_cons rfl (ob_cons ?_ (ob_cons rfl (ob_cons ?_ (ob_cons rfl (ob_cons (Nat.le_refl _) (ob_cons (.inl ⟨rfl, rfl⟩) (ob_cons rfl (ob_cons (Nat.le_refl _) (ob_cons (.inl ⟨rfl, rfl⟩) (ob_cons rfl (ob_cons ?_ (ob_cons ?_ (ob_cons h2 (ob_cons ?_ (ob_cons h1 ob_nil))))))))))))))))))) (by show ii + 1 ≤ m; omega) (by show m - (ii + 1) < m - ii; omega)
      ·
        first | with_reducible assumption | exact rfl | exact hlp g1 | exact hlp (by omega) | exact .inl ⟨rfl, rfl⟩ | (rw [ddN_n h2]; done) | (rw [ddN_n h2]; exact Nat.le_refl _) | (rw [ddN_n h2]; exact .inl ⟨rfl, rfl⟩) | (rw [ddN_y h2]; simp; done) | (rw [ddN_y h2]; exact .inr dd_rows) | (apply Nat.ble_eq_true_of_le; omega) | (simp [Nat.blt_eq]; omega) | (simp; done) | (simp; omega) | rfl
      ·
        first | with_reducible assumption | exact rfl | exact hlp g1 | exact hlp (by omega) | exact .inl ⟨rfl, rfl⟩ | (rw [ddN_n h2]; done) | (rw [ddN_n h2]; exact Nat.le_refl _) | (rw [ddN_n h2]; exact .inl ⟨rfl, rfl⟩) | (rw [ddN_y h2]; simp; done) | (rw [ddN_y h2]; exact .inr dd_rows) | (apply Nat.ble_eq_true_of_le; omega) | (simp [Nat.blt_eq]; omega) | (simp; done) | (simp; omega) | exact wrap_nat64 _ (by simp; omega) (by simp; omega)
      ·
        first | with_reducible assumption | exact rfl | exact hlp g1 | exact hlp (by omega) | exact .inl ⟨rfl, rfl⟩ | (rw [ddN_n h2]; done) | (rw [ddN_n h2]; exact Nat.le_refl _) | (rw [ddN_n h2]; exact .inl ⟨rfl, rfl⟩) | (rw [ddN_y h2]; simp; done) | (rw [ddN_y h2]; exact .inr dd_rows) | (apply Nat.ble_eq_true_of_le; omega) | (simp [Nat.blt_eq]; omega) | (simp; done) | (simp; omega) | exact Nat.le_refl _ | omega
      ·
        first | with_reducible assumption | exact rfl | exact hlp g1 | exact hlp (by omega) | exact .inl ⟨rfl, rfl⟩ | (rw [ddN_n h2]; done) | (rw [ddN_n h2]; exact Nat.le_refl _) | (rw [ddN_n h2]; exact .inl ⟨rfl, rfl⟩) | (rw [ddN_y h2]; simp; done) | (rw [ddN_y h2]; exact .inr dd_rows) | (apply Nat.ble_eq_true_of_le; omega) | (simp [Nat.blt_eq]; omega) | (simp; done) | (simp; omega) | exact .inl ⟨rfl, rfl⟩
      ·
        first | with_reducible assumption | exact rfl | exact hlp g1 | exact hlp (by omega) | exact .inl ⟨rfl, rfl⟩ | (rw [ddN_n h2]; done) | (rw [ddN_n h2]; exact Nat.le_refl _) | (rw [ddN_n h2]; exact .inl ⟨rfl, rfl⟩) | (rw [ddN_y h2]; simp; done) | (rw [ddN_y h2]; exact .inr dd_rows) | (apply Nat.ble_eq_true_of_le; omega) | (simp [Nat.blt_eq]; omega) | (simp; done) | (simp; omega) | trivial
  | false =>
    have g1 := of_decide_eq_false h1
    try simp only [Int.ofNat_eq_natCast, ge_iff_le, gt_iff_lt, Int.not_lt, Int.not_le] at g1
    obtain rfl : m = ii := by omega
    refine round_exit (s0 := fkaU m f) (T := fun i => fkaT m f i) (i := m) (fkar_3 ..) (by simp) (ob_cons rfl (ob_cons rfl (ob_cons rfl (ob_cons rfl (ob_cons rfl (ob_cons rfl (ob_cons rfl (ob_cons (Nat.le_refl _) (ob_cons (.inl ⟨rfl, rfl⟩) (ob_cons rfl (ob_cons (Nat.le_refl _) (ob_cons (.inl ⟨rfl, rfl⟩) (ob_cons rfl (ob_cons (Nat.le_refl _) (ob_cons (.inl ⟨rfl, rfl⟩) (ob_cons h1 ob_nil))))))))))))))))
end Go.Proofs.YtmndhjodbnojdaaDoor
