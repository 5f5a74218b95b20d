/-
  SnapsMoved: the comparison of one thread.
-/
import Derived.Test.YtmlfmmnnbdlabaaNSdDef
set_option linter.unusedSimpArgs false
set_option linter.unusedVariables false
namespace Go.Proofs.Ytmlfmmnnbdlabaa
open Go.Ev
theorem sda_1 (n al : Nat) (g F G : Nat → Nat → AV) (w who fd wh ta fl : Int) (m : MS) (i : Nat) (j : Nat) : roundB ESc 4000 sdL ((sdU n al g F G w who fd wh ta fl m i).hp) [] (sdT n al g F G w who fd wh ta fl m i j) [Hint.b true, Hint.b false, Hint.b false] (sdT n al g F G w who fd wh ta fl m i (j + 1)) =
 some (Ex.norm, [(0 : Nat) = 0,
 n = n,
 (none : Option Nat) = none,
 w = w,
 who = who,
 fd = fd,
 wh = wh,
 (0 : Nat) = 0,
 (0 : Nat) = 0,
 Int.ofNat i = Int.ofNat i,
 IntKind.i64.wrap (Int.ofNat j + 1) = Int.ofNat (j + 1),
 (0 : Nat) = 0,
 al - 0 = al - 0,
 some (al - 0) = some (al - 0),
 (0 : Int) = 0,
 false = false,
 al ≤ al,
 G = G ∧ plainSh tSh = true ∨ ∀ (i : Nat), i < al → rowOb tSh 0 (G i) (G i),
 true = true,
 n ≤ n,
 g = g ∧ plainSh tSh = true ∨ ∀ (i : Nat), i < n → rowOb tSh 0 (g i) (g i),
 (wd10 (avInt (G (0 + i) 0)) (avInt (G (0 + i) 1)) (avInt (G (0 + i) 2)) (avInt (G (0 + i) 3)) (avInt (G (0 + i) 4)) (avInt (G (0 + i) 5)) (avInt (G (0 + i) 6)) (avInt (G (0 + i) 7)) (avInt (G (0 + i) 8)) (avInt (G (0 + i) 9)) (Int.ofNat j) != wd10 (avInt (g (0 + i) 0)) (avInt (g (0 + i) 1)) (avInt (g (0 + i) 2)) (avInt (g (0 + i) 3)) (avInt (g (0 + i) 4)) (avInt (g (0 + i) 5)) (avInt (g (0 + i) 6)) (avInt (g (0 + i) 7)) (avInt (g (0 + i) 8)) (avInt (g (0 + i) 9)) (Int.ofNat j)) = false,
 0 ≤ Int.ofNat j,
 Int.ofNat j < 10,
 (0 + i).blt al = true,
 (i.blt (al - 0) && decide (0 ≤ Int.ofNat i)) = true,
 (Int.ofNat i == who) = false,
 0 ≤ Int.ofNat j,
 Int.ofNat j < 10,
 (0 + i).blt n = true,
 (i.blt n && decide (0 ≤ Int.ofNat i)) = true,
 decide (Int.ofNat j < 10) = true]) := by kernel_rfl
theorem sdb_1 (n al : Nat) (g F G : Nat → Nat → AV) (w who fd wh ta fl : Int) (m : MS) (i : Nat) (j : Nat) : roundB ESc 4000 sdL ((sdU n al g F G w who fd wh ta fl m i).hp) [] (sdT n al g F G w who fd wh ta fl m i j) [Hint.b true, Hint.b true, Hint.b false, Hint.b false] (sdT n al g F G w who fd wh ta fl m i (j + 1)) =
 some (Ex.norm, [(0 : Nat) = 0,
 n = n,
 (none : Option Nat) = none,
 w = w,
 who = who,
 fd = fd,
 wh = wh,
 (0 : Nat) = 0,
 (0 : Nat) = 0,
 Int.ofNat i = Int.ofNat i,
 IntKind.i64.wrap (Int.ofNat j + 1) = Int.ofNat (j + 1),
 (0 : Nat) = 0,
 al - 0 = al - 0,
 some (al - 0) = some (al - 0),
 (0 : Int) = 0,
 false = false,
 al ≤ al,
 G = G ∧ plainSh tSh = true ∨ ∀ (i : Nat), i < al → rowOb tSh 0 (G i) (G i),
 true = true,
 n ≤ n,
 g = g ∧ plainSh tSh = true ∨ ∀ (i : Nat), i < n → rowOb tSh 0 (g i) (g i),
 (wd10 (avInt (G (0 + i) 0)) (avInt (G (0 + i) 1)) (avInt (G (0 + i) 2)) (avInt (G (0 + i) 3)) (avInt (G (0 + i) 4)) (avInt (G (0 + i) 5)) (avInt (G (0 + i) 6)) (avInt (G (0 + i) 7)) (avInt (G (0 + i) 8)) (avInt (G (0 + i) 9)) (Int.ofNat j) != wd10 (avInt (g (0 + i) 0)) (avInt (g (0 + i) 1)) (avInt (g (0 + i) 2)) (avInt (g (0 + i) 3)) (avInt (g (0 + i) 4)) (avInt (g (0 + i) 5)) (avInt (g (0 + i) 6)) (avInt (g (0 + i) 7)) (avInt (g (0 + i) 8)) (avInt (g (0 + i) 9)) (Int.ofNat j)) = false,
 0 ≤ Int.ofNat j,
 Int.ofNat j < 10,
 (0 + i).blt al = true,
 (i.blt (al - 0) && decide (0 ≤ Int.ofNat i)) = true,
 (Int.ofNat j == fd) = false,
 (Int.ofNat i == who) = true,
 0 ≤ Int.ofNat j,
 Int.ofNat j < 10,
 (0 + i).blt n = true,
 (i.blt n && decide (0 ≤ Int.ofNat i)) = true,
 decide (Int.ofNat j < 10) = true]) := by kernel_rfl
theorem sdc_1 (n al : Nat) (g F G : Nat → Nat → AV) (w who fd wh ta fl : Int) (m : MS) (i : Nat) (j : Nat) : roundB ESc 4000 sdL ((sdU n al g F G w who fd wh ta fl m i).hp) [] (sdT n al g F G w who fd wh ta fl m i j) [Hint.b true, Hint.b true, Hint.b true, Hint.b true, Hint.b false] (sdT n al g F G w who fd wh ta fl m i (j + 1)) =
 some (Ex.norm, [(0 : Nat) = 0,
 n = n,
 (none : Option Nat) = none,
 w = w,
 who = who,
 fd = fd,
 wh = wh,
 (0 : Nat) = 0,
 (0 : Nat) = 0,
 Int.ofNat i = Int.ofNat i,
 IntKind.i64.wrap (Int.ofNat j + 1) = Int.ofNat (j + 1),
 (0 : Nat) = 0,
 al - 0 = al - 0,
 some (al - 0) = some (al - 0),
 (0 : Int) = 0,
 false = false,
 al ≤ al,
 G = G ∧ plainSh tSh = true ∨ ∀ (i : Nat), i < al → rowOb tSh 0 (G i) (G i),
 true = true,
 n ≤ n,
 g = g ∧ plainSh tSh = true ∨ ∀ (i : Nat), i < n → rowOb tSh 0 (g i) (g i),
 (wd10 (avInt (G (0 + i) 0)) (avInt (G (0 + i) 1)) (avInt (G (0 + i) 2)) (avInt (G (0 + i) 3)) (avInt (G (0 + i) 4)) (avInt (G (0 + i) 5)) (avInt (G (0 + i) 6)) (avInt (G (0 + i) 7)) (avInt (G (0 + i) 8)) (avInt (G (0 + i) 9)) (Int.ofNat j) != w) = false,
 0 ≤ Int.ofNat j,
 Int.ofNat j < 10,
 (0 + i).blt al = true,
 (i.blt (al - 0) && decide (0 ≤ Int.ofNat i)) = true,
 decide (wh ≤ IntKind.i64.wrap (IntKind.i64.wrap (1 + IntKind.i64.wrap (10 * who)) + fd)) = true,
 (Int.ofNat j == fd) = true,
 (Int.ofNat i == who) = true,
 0 ≤ Int.ofNat j,
 Int.ofNat j < 10,
 (0 + i).blt n = true,
 (i.blt n && decide (0 ≤ Int.ofNat i)) = true,
 decide (Int.ofNat j < 10) = true]) := by kernel_rfl
theorem sdd_1 (n al : Nat) (g F G : Nat → Nat → AV) (w who fd wh ta fl : Int) (m : MS) (i : Nat) (j : Nat) : roundB ESc 4000 sdL ((sdU n al g F G w who fd wh ta fl m i).hp) [] (sdT n al g F G w who fd wh ta fl m i j) [Hint.b true, Hint.b true, Hint.b true, Hint.b false, Hint.b false] (sdT n al g F G w who fd wh ta fl m i (j + 1)) =
 some (Ex.norm, [(0 : Nat) = 0,
 n = n,
 (none : Option Nat) = none,
 w = w,
 who = who,
 fd = fd,
 wh = wh,
 (0 : Nat) = 0,
 (0 : Nat) = 0,
 Int.ofNat i = Int.ofNat i,
 IntKind.i64.wrap (Int.ofNat j + 1) = Int.ofNat (j + 1),
 (0 : Nat) = 0,
 al - 0 = al - 0,
 some (al - 0) = some (al - 0),
 (0 : Int) = 0,
 false = false,
 al ≤ al,
 G = G ∧ plainSh tSh = true ∨ ∀ (i : Nat), i < al → rowOb tSh 0 (G i) (G i),
 true = true,
 n ≤ n,
 g = g ∧ plainSh tSh = true ∨ ∀ (i : Nat), i < n → rowOb tSh 0 (g i) (g i),
 (wd10 (avInt (G (0 + i) 0)) (avInt (G (0 + i) 1)) (avInt (G (0 + i) 2)) (avInt (G (0 + i) 3)) (avInt (G (0 + i) 4)) (avInt (G (0 + i) 5)) (avInt (G (0 + i) 6)) (avInt (G (0 + i) 7)) (avInt (G (0 + i) 8)) (avInt (G (0 + i) 9)) (Int.ofNat j) != wd10 (avInt (g (0 + i) 0)) (avInt (g (0 + i) 1)) (avInt (g (0 + i) 2)) (avInt (g (0 + i) 3)) (avInt (g (0 + i) 4)) (avInt (g (0 + i) 5)) (avInt (g (0 + i) 6)) (avInt (g (0 + i) 7)) (avInt (g (0 + i) 8)) (avInt (g (0 + i) 9)) (Int.ofNat j)) = false,
 0 ≤ Int.ofNat j,
 Int.ofNat j < 10,
 (0 + i).blt al = true,
 (i.blt (al - 0) && decide (0 ≤ Int.ofNat i)) = true,
 decide (wh ≤ IntKind.i64.wrap (IntKind.i64.wrap (1 + IntKind.i64.wrap (10 * who)) + fd)) = false,
 (Int.ofNat j == fd) = true,
 (Int.ofNat i == who) = true,
 0 ≤ Int.ofNat j,
 Int.ofNat j < 10,
 (0 + i).blt n = true,
 (i.blt n && decide (0 ≤ Int.ofNat i)) = true,
 decide (Int.ofNat j < 10) = true]) := by kernel_rfl
theorem sdx_1 (n al : Nat) (g F G : Nat → Nat → AV) (w who fd wh ta fl : Int) (m : MS) (i : Nat) (j : Nat) : roundB ESc 4000 sdL ((sdU n al g F G w who fd wh ta fl m i).hp) [] (sdT n al g F G w who fd wh ta fl m i j) [Hint.b false] (sdX n al g F G w who fd wh ta fl m i) =
 some (Ex.exit 6, [(0 : Nat) = 0,
 n = n,
 (none : Option Nat) = none,
 w = w,
 who = who,
 fd = fd,
 wh = wh,
 (0 : Nat) = 0,
 (0 : Nat) = 0,
 Int.ofNat i = Int.ofNat i,
 (0 : Nat) = 0,
 al - 0 = al - 0,
 some (al - 0) = some (al - 0),
 (0 : Int) = 0,
 false = false,
 al ≤ al,
 G = G ∧ plainSh tSh = true ∨ ∀ (i : Nat), i < al → rowOb tSh 0 (G i) (G i),
 true = true,
 n ≤ n,
 g = g ∧ plainSh tSh = true ∨ ∀ (i : Nat), i < n → rowOb tSh 0 (g i) (g i),
 decide (Int.ofNat j < 10) = false]) := by kernel_rfl
theorem sdi_1 (n al : Nat) (g F G : Nat → Nat → AV) (w who fd wh ta fl : Int) (m : MS) (i : Nat) : castSt ((sdU n al g F G w who fd wh ta fl m i).hp) [] (sdU n al g F G w who fd wh ta fl m i) (sdT n al g F G w who fd wh ta fl m i 0) =
 some ([(0 : Nat) = 0,
 n = n,
 (none : Option Nat) = none,
 w = w,
 who = who,
 fd = fd,
 wh = wh,
 (0 : Nat) = 0,
 (0 : Nat) = 0,
 Int.ofNat i = Int.ofNat i,
 (0 : Int) = 0,
 (0 : Nat) = 0,
 al - 0 = al - 0,
 some (al - 0) = some (al - 0),
 (0 : Int) = 0,
 false = false,
 al ≤ al,
 G = G ∧ plainSh tSh = true ∨ ∀ (i : Nat), i < al → rowOb tSh 0 (G i) (G i),
 true = true,
 n ≤ n,
 g = g ∧ plainSh tSh = true ∨ ∀ (i : Nat), i < n → rowOb tSh 0 (g i) (g i)]) := by kernel_rfl
theorem sd_lp (n al : Nat) (g F G : Nat → Nat → AV) (w who fd wh ta fl : Int) (m : MS) (i : Nat) (hin : i < n) (hn : n ≤ 16) (hal : n ≤ al) (hal2 : al ≤ 16) (hf : 0 ≤ fd ∧ fd ≤ 9) (hw : 0 ≤ who ∧ who < 16) (hS : ∀ j, j < 10 → SameW g G w who fd wh i j) : sdLP n al g F G w who fd wh ta fl m i := by
  refine loop_rule ESc_ok (I := Nat) (fun j => sdT n al g F G w who fd wh ta fl m i j) (fun j => 10 - j) (fun j => j ≤ 10) ?_ (fun jj hj => ?_)
  ·
    refine ⟨0, [], _, Nat.zero_le _, sdi_1 .., (ob_cons rfl (ob_cons rfl (ob_cons rfl (ob_cons rfl (ob_cons rfl (ob_cons rfl (ob_cons rfl (ob_cons rfl (ob_cons rfl (ob_cons rfl (ob_cons rfl (ob_cons rfl (ob_cons rfl (ob_cons rfl (ob_cons rfl (ob_cons rfl (ob_cons (Nat.le_refl _) (ob_cons (.inl ⟨rfl, rfl⟩) (ob_cons rfl (ob_cons (Nat.le_refl _) (ob_cons (.inl ⟨rfl, rfl⟩) ob_nil)))))))))))))))))))))⟩
  have hj : jj ≤ 10 := hj
  by_cases hjn : jj < 10
  · have h1 : decide (Int.ofNat jj < (10 : Int)) = true := decide_eq_true (by simp; omega)
    have h2 : IntKind.i64.wrap (Int.ofNat jj + 1) = Int.ofNat (jj + 1) := wrap_nat64 _ (by simp; omega) (by simp; omega)
    have h3 : (i.blt n && decide (0 ≤ Int.ofNat i)) = true := by rw [Bool.and_eq_true]; exact ⟨by simpa [Nat.blt_eq] using hin, decide_eq_true (by simp)⟩
    have h4 : (0 + i).blt n = true := by rw [Nat.zero_add]; simpa [Nat.blt_eq] using hin
    have h5 : (i.blt (al - 0) && decide (0 ≤ Int.ofNat i)) = true := by rw [Bool.and_eq_true]; exact ⟨by simpa [Nat.blt_eq] using (show i < al by omega), decide_eq_true (by simp)⟩
    have h6 : (0 + i).blt al = true := by rw [Nat.zero_add]; simpa [Nat.blt_eq] using (show i < al by omega)
    have h7 : 0 ≤ Int.ofNat jj := by simp
    have h8 : Int.ofNat jj < 10 := by simp; omega
    have hs := hS jj hjn
    unfold SameW at hs
    have e1 : IntKind.i64.wrap (10 * who) = 10 * who := i64w (by omega) (by omega)
    have e2 : IntKind.i64.wrap (1 + IntKind.i64.wrap (10 * who)) = 1 + 10 * who := by rw [e1]; exact i64w (by omega) (by omega)
    have e3 : IntKind.i64.wrap (IntKind.i64.wrap (1 + IntKind.i64.wrap (10 * who)) + fd) = 1 + 10 * who + fd := by rw [e2]; exact i64w (by omega) (by omega)
    by_cases c1 : Int.ofNat i = who
    · have k1 : (Int.ofNat i == who) = true := by simpa using c1
      by_cases c2 : Int.ofNat jj = fd
      · have k2 : (Int.ofNat jj == fd) = true := by simpa using c2
        by_cases c3 : wh ≤ 1 + 10 * who + fd
        · have k3 : decide (wh ≤ IntKind.i64.wrap (IntKind.i64.wrap (1 + IntKind.i64.wrap (10 * who)) + fd)) = true := by rw [e3]; exact decide_eq_true c3
          rw [if_pos ⟨c1, c2, c3⟩] at hs
          have k4 : (gW G i (Int.ofNat jj) != w) = false := by rw [hs]; simp
          unfold gW at k4
          refine round_norm (s0 := sdU n al g F G w who fd wh ta fl m i) (T := fun j => sdT n al g F G w who fd wh ta fl m i j) (i := jj) (jj + 1) (sdc_1 n al g F G w who fd wh ta fl m i jj) (ob_cons rfl (ob_cons rfl (ob_cons rfl (ob_cons rfl (ob_cons rfl (ob_cons rfl (ob_cons rfl (ob_cons rfl (ob_cons rfl (ob_cons rfl (ob_cons ?_ (ob_cons rfl (ob_cons rfl (ob_cons rfl (ob_cons rfl (ob_cons rfl (ob_cons (Nat.le_refl _) (ob_cons (.inl ⟨rfl, rfl⟩) (ob_cons rfl (ob_cons (Nat.le_refl _) (ob_cons (.inl ⟨rfl, rfl⟩) (ob_cons ?_ (ob_cons ?_ (ob_cons ?_ (ob_cons ?_ (ob_cons ?_ (ob_cons ?_ (ob_cons ?_ (ob_cons ?_ (ob_cons ?_ (ob_cons ?_ (ob_cons ?_ (ob_cons ?_ (ob_cons ?_ ob_nil)))))))))))))))))))))))))))))))))) (by show jj + 1 ≤ 10; omega) (by show 10 - (jj + 1) < 10 - jj; omega)
          ·
            first | with_reducible assumption | exact rfl | (simp; omega) | exact wrap_nat64 _ (by simp; omega) (by simp; omega)
          ·
            first | with_reducible assumption | exact rfl | (simp; omega) | (apply Nat.ble_eq_true_of_le; omega) | (simp [Nat.blt_eq]; omega)
          ·
            first | with_reducible assumption | exact rfl | (simp; omega) | exact Nat.le_refl _ | omega
          ·
            first | with_reducible assumption | exact rfl | (simp; omega) | omega
          ·
            first | with_reducible assumption | exact rfl | (simp; omega) | (apply Nat.ble_eq_true_of_le; omega) | (simp [Nat.blt_eq]; omega)
          ·
            first | with_reducible assumption | exact rfl | (simp; omega) | (apply Nat.ble_eq_true_of_le; omega) | (simp [Nat.blt_eq]; omega)
          ·
            first | with_reducible assumption | exact rfl | (simp; omega) | (apply Nat.ble_eq_true_of_le; omega) | (simp [Nat.blt_eq]; omega)
          ·
            first | with_reducible assumption | exact rfl | (simp; omega) | (apply Nat.ble_eq_true_of_le; omega) | (simp [Nat.blt_eq]; omega)
          ·
            first | with_reducible assumption | exact rfl | (simp; omega) | (apply Nat.ble_eq_true_of_le; omega) | (simp [Nat.blt_eq]; omega)
          ·
            first | with_reducible assumption | exact rfl | (simp; omega) | exact Nat.le_refl _ | omega
          ·
            first | with_reducible assumption | exact rfl | (simp; omega) | omega
          ·
            first | with_reducible assumption | exact rfl | (simp; omega) | (apply Nat.ble_eq_true_of_le; omega) | (simp [Nat.blt_eq]; omega)
          ·
            first | with_reducible assumption | exact rfl | (simp; omega) | (apply Nat.ble_eq_true_of_le; omega) | (simp [Nat.blt_eq]; omega)
          ·
            first | with_reducible assumption | exact rfl | (simp; omega) | (apply Nat.ble_eq_true_of_le; omega) | (simp [Nat.blt_eq]; omega)
        · have k3 : decide (wh ≤ IntKind.i64.wrap (IntKind.i64.wrap (1 + IntKind.i64.wrap (10 * who)) + fd)) = false := by rw [e3]; exact decide_eq_false c3
          rw [if_neg (fun h => c3 h.2.2)] at hs
          have k4 : (gW G i (Int.ofNat jj) != gW g i (Int.ofNat jj)) = false := by rw [hs]; simp
          unfold gW at k4
          refine round_norm (s0 := sdU n al g F G w who fd wh ta fl m i) (T := fun j => sdT n al g F G w who fd wh ta fl m i j) (i := jj) (jj + 1) (sdd_1 n al g F G w who fd wh ta fl m i jj) (ob_cons rfl (ob_cons rfl (ob_cons rfl (ob_cons rfl (ob_cons rfl (ob_cons rfl (ob_cons rfl (ob_cons rfl (ob_cons rfl (ob_cons rfl (ob_cons ?_ (ob_cons rfl (ob_cons rfl (ob_cons rfl (ob_cons rfl (ob_cons rfl (ob_cons (Nat.le_refl _) (ob_cons (.inl ⟨rfl, rfl⟩) (ob_cons rfl (ob_cons (Nat.le_refl _) (ob_cons (.inl ⟨rfl, rfl⟩) (ob_cons ?_ (ob_cons ?_ (ob_cons ?_ (ob_cons ?_ (ob_cons ?_ (ob_cons ?_ (ob_cons ?_ (ob_cons ?_ (ob_cons ?_ (ob_cons ?_ (ob_cons ?_ (ob_cons ?_ (ob_cons ?_ ob_nil)))))))))))))))))))))))))))))))))) (by show jj + 1 ≤ 10; omega) (by show 10 - (jj + 1) < 10 - jj; omega)
          ·
            first | with_reducible assumption | exact rfl | (simp; omega) | exact wrap_nat64 _ (by simp; omega) (by simp; omega)
          ·
            first | with_reducible assumption | exact rfl | (simp; omega) | (apply Nat.ble_eq_true_of_le; omega) | (simp [Nat.blt_eq]; omega)
          ·
            first | with_reducible assumption | exact rfl | (simp; omega) | exact Nat.le_refl _ | omega
          ·
            first | with_reducible assumption | exact rfl | (simp; omega) | omega
          ·
            first | with_reducible assumption | exact rfl | (simp; omega) | (apply Nat.ble_eq_true_of_le; omega) | (simp [Nat.blt_eq]; omega)
          ·
            first | with_reducible assumption | exact rfl | (simp; omega) | (apply Nat.ble_eq_true_of_le; omega) | (simp [Nat.blt_eq]; omega)
          ·
            first | with_reducible assumption | exact rfl | (simp; omega) | (apply Nat.ble_eq_true_of_le; omega) | (simp [Nat.blt_eq]; omega)
          ·
            first | with_reducible assumption | exact rfl | (simp; omega) | (apply Nat.ble_eq_true_of_le; omega) | (simp [Nat.blt_eq]; omega)
          ·
            first | with_reducible assumption | exact rfl | (simp; omega) | (apply Nat.ble_eq_true_of_le; omega) | (simp [Nat.blt_eq]; omega)
          ·
            first | with_reducible assumption | exact rfl | (simp; omega) | exact Nat.le_refl _ | omega
          ·
            first | with_reducible assumption | exact rfl | (simp; omega) | omega
          ·
            first | with_reducible assumption | exact rfl | (simp; omega) | (apply Nat.ble_eq_true_of_le; omega) | (simp [Nat.blt_eq]; omega)
          ·
            first | with_reducible assumption | exact rfl | (simp; omega) | (apply Nat.ble_eq_true_of_le; omega) | (simp [Nat.blt_eq]; omega)
          ·
            first | with_reducible assumption | exact rfl | (simp; omega) | (apply Nat.ble_eq_true_of_le; omega) | (simp [Nat.blt_eq]; omega)
      · have k2 : (Int.ofNat jj == fd) = false := by simpa using c2
        rw [if_neg (fun h => c2 h.2.1)] at hs
        have k4 : (gW G i (Int.ofNat jj) != gW g i (Int.ofNat jj)) = false := by rw [hs]; simp
        unfold gW at k4
        refine round_norm (s0 := sdU n al g F G w who fd wh ta fl m i) (T := fun j => sdT n al g F G w who fd wh ta fl m i j) (i := jj) (jj + 1) (sdb_1 n al g F G w who fd wh ta fl m i jj) (ob_cons rfl (ob_cons rfl (ob_cons rfl (ob_cons rfl (ob_cons rfl (ob_cons rfl (ob_cons rfl (ob_cons rfl (ob_cons rfl (ob_cons rfl (ob_cons ?_ (ob_cons rfl (ob_cons rfl (ob_cons rfl (ob_cons rfl (ob_cons rfl (ob_cons (Nat.le_refl _) (ob_cons (.inl ⟨rfl, rfl⟩) (ob_cons rfl (ob_cons (Nat.le_refl _) (ob_cons (.inl ⟨rfl, rfl⟩) (ob_cons ?_ (ob_cons ?_ (ob_cons ?_ (ob_cons ?_ (ob_cons ?_ (ob_cons ?_ (ob_cons ?_ (ob_cons ?_ (ob_cons ?_ (ob_cons ?_ (ob_cons ?_ (ob_cons ?_ ob_nil))))))))))))))))))))))))))))))))) (by show jj + 1 ≤ 10; omega) (by show 10 - (jj + 1) < 10 - jj; omega)
        ·
          first | with_reducible assumption | exact rfl | (simp; omega) | exact wrap_nat64 _ (by simp; omega) (by simp; omega)
        ·
          first | with_reducible assumption | exact rfl | (simp; omega) | (apply Nat.ble_eq_true_of_le; omega) | (simp [Nat.blt_eq]; omega)
        ·
          first | with_reducible assumption | exact rfl | (simp; omega) | exact Nat.le_refl _ | omega
        ·
          first | with_reducible assumption | exact rfl | (simp; omega) | omega
        ·
          first | with_reducible assumption | exact rfl | (simp; omega) | (apply Nat.ble_eq_true_of_le; omega) | (simp [Nat.blt_eq]; omega)
        ·
          first | with_reducible assumption | exact rfl | (simp; omega) | (apply Nat.ble_eq_true_of_le; omega) | (simp [Nat.blt_eq]; omega)
        ·
          first | with_reducible assumption | exact rfl | (simp; omega) | (apply Nat.ble_eq_true_of_le; omega) | (simp [Nat.blt_eq]; omega)
        ·
          first | with_reducible assumption | exact rfl | (simp; omega) | (apply Nat.ble_eq_true_of_le; omega) | (simp [Nat.blt_eq]; omega)
        ·
          first | with_reducible assumption | exact rfl | (simp; omega) | exact Nat.le_refl _ | omega
        ·
          first | with_reducible assumption | exact rfl | (simp; omega) | omega
        ·
          first | with_reducible assumption | exact rfl | (simp; omega) | (apply Nat.ble_eq_true_of_le; omega) | (simp [Nat.blt_eq]; omega)
        ·
          first | with_reducible assumption | exact rfl | (simp; omega) | (apply Nat.ble_eq_true_of_le; omega) | (simp [Nat.blt_eq]; omega)
        ·
          first | with_reducible assumption | exact rfl | (simp; omega) | (apply Nat.ble_eq_true_of_le; omega) | (simp [Nat.blt_eq]; omega)
    · have k1 : (Int.ofNat i == who) = false := by simpa using c1
      rw [if_neg (fun h => c1 h.1)] at hs
      have k4 : (gW G i (Int.ofNat jj) != gW g i (Int.ofNat jj)) = false := by rw [hs]; simp
      unfold gW at k4
      refine round_norm (s0 := sdU n al g F G w who fd wh ta fl m i) (T := fun j => sdT n al g F G w who fd wh ta fl m i j) (i := jj) (jj + 1) (sda_1 n al g F G w who fd wh ta fl m i jj) (ob_cons rfl (ob_cons rfl (ob_cons rfl (ob_cons rfl (ob_cons rfl (ob_cons rfl (ob_cons rfl (ob_cons rfl (ob_cons rfl (ob_cons rfl (ob_cons ?_ (ob_cons rfl (ob_cons rfl (ob_cons rfl (ob_cons rfl (ob_cons rfl (ob_cons (Nat.le_refl _) (ob_cons (.inl ⟨rfl, rfl⟩) (ob_cons rfl (ob_cons (Nat.le_refl _) (ob_cons (.inl ⟨rfl, rfl⟩) (ob_cons ?_ (ob_cons ?_ (ob_cons ?_ (ob_cons ?_ (ob_cons ?_ (ob_cons ?_ (ob_cons ?_ (ob_cons ?_ (ob_cons ?_ (ob_cons ?_ (ob_cons ?_ ob_nil)))))))))))))))))))))))))))))))) (by show jj + 1 ≤ 10; omega) (by show 10 - (jj + 1) < 10 - jj; omega)
      ·
        first | with_reducible assumption | exact rfl | (simp; omega) | exact wrap_nat64 _ (by simp; omega) (by simp; omega)
      ·
        first | with_reducible assumption | exact rfl | (simp; omega) | (apply Nat.ble_eq_true_of_le; omega) | (simp [Nat.blt_eq]; omega)
      ·
        first | with_reducible assumption | exact rfl | (simp; omega) | exact Nat.le_refl _ | omega
      ·
        first | with_reducible assumption | exact rfl | (simp; omega) | omega
      ·
        first | with_reducible assumption | exact rfl | (simp; omega) | (apply Nat.ble_eq_true_of_le; omega) | (simp [Nat.blt_eq]; omega)
      ·
        first | with_reducible assumption | exact rfl | (simp; omega) | (apply Nat.ble_eq_true_of_le; omega) | (simp [Nat.blt_eq]; omega)
      ·
        first | with_reducible assumption | exact rfl | (simp; omega) | (apply Nat.ble_eq_true_of_le; omega) | (simp [Nat.blt_eq]; omega)
      ·
        first | with_reducible assumption | exact rfl | (simp; omega) | exact Nat.le_refl _ | omega
      ·
        first | with_reducible assumption | exact rfl | (simp; omega) | omega
      ·
        first | with_reducible assumption | exact rfl | (simp; omega) | (apply Nat.ble_eq_true_of_le; omega) | (simp [Nat.blt_eq]; omega)
      ·
        first | with_reducible assumption | exact rfl | (simp; omega) | (apply Nat.ble_eq_true_of_le; omega) | (simp [Nat.blt_eq]; omega)
      ·
        first | with_reducible assumption | exact rfl | (simp; omega) | (apply Nat.ble_eq_true_of_le; omega) | (simp [Nat.blt_eq]; omega)
  · obtain rfl : jj = 10 := by omega
    have h1 : decide (Int.ofNat 10 < (10 : Int)) = false := by decide
    refine round_exit (s0 := sdU n al g F G w who fd wh ta fl m i) (T := fun j => sdT n al g F G w who fd wh ta fl m i j) (i := 10) (sdx_1 n al g F G w who fd wh ta fl m i 10) (by simp) (ob_cons rfl (ob_cons rfl (ob_cons rfl (ob_cons rfl (ob_cons rfl (ob_cons rfl (ob_cons rfl (ob_cons rfl (ob_cons rfl (ob_cons rfl (ob_cons rfl (ob_cons rfl (ob_cons rfl (ob_cons rfl (ob_cons rfl (ob_cons (Nat.le_refl _) (ob_cons (.inl ⟨rfl, rfl⟩) (ob_cons rfl (ob_cons (Nat.le_refl _) (ob_cons (.inl ⟨rfl, rfl⟩) (ob_cons ?_ ob_nil)))))))))))))))))))))
    ·
      first | with_reducible assumption | exact rfl | (simp; omega) | (apply Nat.ble_eq_true_of_le; omega) | (simp [Nat.blt_eq]; omega)

end Go.Proofs.Ytmlfmmnnbdlabaa
