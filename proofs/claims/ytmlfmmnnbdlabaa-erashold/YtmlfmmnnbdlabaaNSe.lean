/-
  SnapsMoved: the comparison.
-/
import Derived.Test.YtmlfmmnnbdlabaaNSeDef
set_option linter.unusedSimpArgs false
set_option linter.unusedVariables false
namespace Go.Proofs.Ytmlfmmnnbdlabaa
open Go.Ev
theorem sea_1 (n al : Nat) (g F G : Nat → Nat → AV) (w who fd wh ta fl : Int) (m : MS) (ii : Nat) : roundB ESc 4000 scL ((scU n al g F G w who fd wh ta fl m).hp) [] (scT n al g F G w who fd wh ta fl m ii) [Hint.b true, Hint.lp [3, 4, 8, 9, 10, 13, 14, 15] (Ex.exit 6) (sdX n al g F G w who fd wh ta fl m ii).tmps (sdX n al g F G w who fd wh ta fl m ii).hp.heap 12 []] (scT n al g F G w who fd wh ta fl m (ii + 1)) =
 some (Ex.norm, [(0 : Nat) = 0,
 n = n,
 (none : Option Nat) = none,
 w = w,
 who = who,
 fd = fd,
 wh = wh,
 (0 : Nat) = 0,
 (0 : Nat) = 0,
 IntKind.i64.wrap (Int.ofNat ii + 1) = Int.ofNat (ii + 1),
 (0 : Nat) = 0,
 al - 0 = al - 0,
 some (al - 0) = some (al - 0),
 (0 : Int) = 0,
 false = false,
 al ≤ al,
 G = G ∧ plainSh tSh = true ∨ ∀ (i : Nat), i < al → rowOb tSh 0 (G i) (G i),
 true = true,
 n ≤ n,
 g = g ∧ plainSh tSh = true ∨ ∀ (i : Nat), i < n → rowOb tSh 0 (g i) (g i),
 sdLP n al g F G w who fd wh ta fl m ii,
 decide (Int.ofNat ii < Int.ofNat n) = true]) := by kernel_rfl
theorem sex_1 (n al : Nat) (g F G : Nat → Nat → AV) (w who fd wh ta fl : Int) (m : MS) (ii : Nat) : roundB ESc 4000 scL ((scU n al g F G w who fd wh ta fl m).hp) [] (scT n al g F G w who fd wh ta fl m ii) [Hint.b false] (scX n al g F G w who fd wh ta fl m) =
 some (Ex.exit 4, [(0 : Nat) = 0,
 al - 0 = al - 0,
 some (al - 0) = some (al - 0),
 (0 : Int) = 0,
 false = false,
 al ≤ al,
 G = G ∧ plainSh tSh = true ∨ ∀ (i : Nat), i < al → rowOb tSh 0 (G i) (G i),
 true = true,
 n ≤ n,
 g = g ∧ plainSh tSh = true ∨ ∀ (i : Nat), i < n → rowOb tSh 0 (g i) (g i),
 decide (Int.ofNat ii < Int.ofNat n) = false]) := by kernel_rfl
theorem sei_1 (n al : Nat) (g F G : Nat → Nat → AV) (w who fd wh ta fl : Int) (m : MS) : castSt ((scU n al g F G w who fd wh ta fl m).hp) [] (scU n al g F G w who fd wh ta fl m) (scT n al g F G w who fd wh ta fl m 0) =
 some ([(0 : Nat) = 0,
 n = n,
 (none : Option Nat) = none,
 w = w,
 who = who,
 fd = fd,
 wh = wh,
 (0 : Nat) = 0,
 (0 : Nat) = 0,
 (0 : Int) = 0,
 (0 : Nat) = 0,
 al - 0 = al - 0,
 some (al - 0) = some (al - 0),
 (0 : Int) = 0,
 false = false,
 al ≤ al,
 G = G ∧ plainSh tSh = true ∨ ∀ (i : Nat), i < al → rowOb tSh 0 (G i) (G i),
 true = true,
 n ≤ n,
 g = g ∧ plainSh tSh = true ∨ ∀ (i : Nat), i < n → rowOb tSh 0 (g i) (g i)]) := by kernel_rfl
theorem se_lp (n al : Nat) (g F G : Nat → Nat → AV) (w who fd wh ta fl : Int) (m : MS) (hn : n ≤ 16) (hal : n ≤ al) (hal2 : al ≤ 16) (hf : 0 ≤ fd ∧ fd ≤ 9) (hw : 0 ≤ who ∧ who < 16) (hS : ∀ i j, i < n → j < 10 → SameW g G w who fd wh i j) : scLP n al g F G w who fd wh ta fl m := by
  refine loop_rule ESc_ok (I := Nat) (fun i => scT n al g F G w who fd wh ta fl m i) (fun i => n - i) (fun i => i ≤ n) ?_ (fun ii hi => ?_)
  ·
    refine ⟨0, [], _, Nat.zero_le _, sei_1 .., (ob_cons rfl (ob_cons rfl (ob_cons rfl (ob_cons rfl (ob_cons rfl (ob_cons rfl (ob_cons rfl (ob_cons rfl (ob_cons rfl (ob_cons rfl (ob_cons rfl (ob_cons rfl (ob_cons rfl (ob_cons rfl (ob_cons rfl (ob_cons (Nat.le_refl _) (ob_cons (.inl ⟨rfl, rfl⟩) (ob_cons rfl (ob_cons (Nat.le_refl _) (ob_cons (.inl ⟨rfl, rfl⟩) ob_nil))))))))))))))))))))⟩
  have hi : ii ≤ n := hi
  by_cases hin : ii < n
  · have h1 : decide (Int.ofNat ii < Int.ofNat n) = true := decide_eq_true (by simp; omega)
    have h2 : IntKind.i64.wrap (Int.ofNat ii + 1) = Int.ofNat (ii + 1) := wrap_nat64 _ (by simp; omega) (by simp; omega)
    have hlp := sd_lp n al g F G w who fd wh ta fl m ii hin hn hal hal2 hf hw (fun j hj => hS ii j hin hj)
    refine round_norm (s0 := scU n al g F G w who fd wh ta fl m) (T := fun i => scT n al g F G w who fd wh ta fl m i) (i := ii) (ii + 1) (sea_1 n al g F G w who fd wh ta fl m ii) (ob_cons rfl (ob_cons rfl (ob_cons rfl (ob_cons rfl (ob_cons rfl (ob_cons rfl (ob_cons rfl (ob_cons rfl (ob_cons rfl (ob_cons ?_ (ob_cons rfl (ob_cons rfl (ob_cons rfl (ob_cons rfl (ob_cons rfl (ob_cons (Nat.le_refl _) (ob_cons (.inl ⟨rfl, rfl⟩) (ob_cons rfl (ob_cons (Nat.le_refl _) (ob_cons (.inl ⟨rfl, rfl⟩) (ob_cons ?_ (ob_cons ?_ ob_nil)))))))))))))))))))))) (by show ii + 1 ≤ n; omega) (by show n - (ii + 1) < n - ii; omega)
    ·
      first | with_reducible assumption | exact rfl | (simp; omega) | exact wrap_nat64 _ (by simp; omega) (by simp; omega)
    ·
      first | with_reducible assumption | exact rfl | (simp; omega) | trivial
    ·
      first | with_reducible assumption | exact rfl | (simp; omega) | (apply Nat.ble_eq_true_of_le; omega) | (simp [Nat.blt_eq]; omega)
  · obtain rfl : n = ii := by omega
    have h1 : decide (Int.ofNat n < Int.ofNat n) = false := decide_eq_false (by simp)
    refine round_exit (s0 := scU n al g F G w who fd wh ta fl m) (T := fun i => scT n al g F G w who fd wh ta fl m i) (i := n) (sex_1 n al g F G w who fd wh ta fl m n) (by simp) (ob_cons rfl (ob_cons rfl (ob_cons rfl (ob_cons rfl (ob_cons rfl (ob_cons (Nat.le_refl _) (ob_cons (.inl ⟨rfl, rfl⟩) (ob_cons rfl (ob_cons (Nat.le_refl _) (ob_cons (.inl ⟨rfl, rfl⟩) (ob_cons ?_ ob_nil)))))))))))
    ·
      first | with_reducible assumption | exact rfl | (simp; omega) | (apply Nat.ble_eq_true_of_le; omega) | (simp [Nat.blt_eq]; omega)

end Go.Proofs.Ytmlfmmnnbdlabaa
