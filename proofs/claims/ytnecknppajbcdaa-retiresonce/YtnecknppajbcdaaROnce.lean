/-
  For every slice of entries and every two eras, RetiresOnce returns true; its arguments read as before. No condition.
-/
import Derived.Test.YtnecknppajbcdaaRLs
set_option linter.unusedSimpArgs false
set_option linter.unusedVariables false
namespace Go.Proofs.Ytnecknppajbcdaa
open Go.Ev Go.ChangeShapes Go.WideShapes Go.ChangeAt Go.RowKit
theorem fin_max {n : Nat} {E : Nat → Ent} (h : ∀ i, i < n → 0 ≤ (E i).birth ∧ (E i).birth < 18446744073709551616) : (Int.ofNat (cntB (bornP 0 (entF E) 18446744073709551615) n) == Int.ofNat (cntB (o4P E) n)) = true := by
  rw [cnt_congr (q := o4P E) n (fun i hi => ?_)]
  · simp
  · have := h i hi
    show decide ((E (0 + i)).birth < 18446744073709551615) = ((E (0 + i)).birth != 18446744073709551615)
    rw [Nat.zero_add, Bool.eq_iff_iff]
    simp
    omega
theorem fin_zero {n : Nat} {E : Nat → Ent} (h : ∀ i, i < n → 0 ≤ (E i).birth ∧ (E i).birth < 18446744073709551616) : (Int.ofNat (cntB (bornP 0 (entF E) 0) n) == 0) = true := by
  rw [cnt_zero n (fun i hi => ?_)]
  · rfl
  · have := h i hi
    show decide ((E (0 + i)).birth < 0) = false
    rw [Nat.zero_add]
    simp
    omega
theorem fin_le {n : Nat} {E : Nat → Ent} {a b : Int} (h : a ≤ b) : decide (Int.ofNat (cntB (bornP 0 (entF E) a) n) ≤ Int.ofNat (cntB (bornP 0 (entF E) b) n)) = true := by
  have := cnt_mono (p := bornP 0 (entF E) a) (q := bornP 0 (entF E) b) n (fun i _ hp => by
    have hp := of_decide_eq_true hp
    exact decide_eq_true (Int.lt_of_lt_of_le hp h))
  simp
  omega
section
variable (m n : Nat) (f : Nat → Nat → AV) (E : Nat → Ent) (M : List Int → Option Int) (a b : Int)
noncomputable def onRun (h : List Hint) : Option (AV × List Prop × Bool) := (callF EB 2000 3 (onA m a b) ⟨onH m f, 2, gnm 0, h, [], [], false⟩).map (fun x => (x.1, x.2.ob, noneIn (onH m f) x.2.wr))
def Runs (run : List Hint → Option (AV × List Prop × Bool)) : Prop := ∃ h v ob, run h = some (v, ob, true) ∧ isTrue v ∧ ∀ p ∈ ob, p
theorem lawC_1 : (callF EB 2000 3 (onA m a b) ⟨(onH m f), 2, gnm 0, [Hint.b true], [], [], false⟩).map (fun x => (x.1, x.2.ob, noneIn (onH m f) x.2.wr)) =
 some (AV.bool true, [decide (Int.ofNat m > 100) = true], true) := by kernel_rfl
theorem lawA_1 : (callF EB 2000 3 (onA m a b) ⟨(onH m f), 2, gnm 0, [Hint.b false, Hint.lp k1 (Ex.exit 0) (o1SA m f a b).tmps (o1SA m f a b).hp.heap 3 [], Hint.b true], [], [], false⟩).map (fun x => (x.1, x.2.ob, noneIn (onH m f) x.2.wr)) =
 some (AV.bool true, [decide (a > b) = true,
 onL1A m f a b,
 decide (Int.ofNat m > 100) = false], true) := by kernel_rfl
theorem lawA_2 : (callF EB 2000 3 (onA m a b) ⟨(onH m f), 2, gnm 0, [Hint.b false, Hint.lp k1 (Ex.exit 0) (o1SA m f a b).tmps (o1SA m f a b).hp.heap 3 [], Hint.b false], [], [], false⟩).map (fun x => (x.1, x.2.ob, noneIn (onH m f) x.2.wr)) =
 some (AV.bool true, [decide (a > b) = false,
 onL1A m f a b,
 decide (Int.ofNat m > 100) = false], true) := by kernel_rfl
theorem lawB_1 : (callF EB 2000 3 (onA m a b) ⟨(onH m f), 2, gnm 0, [Hint.b false, Hint.lp k1 (Ex.exit 0) (o1SB m f a b n E M).tmps (o1SB m f a b n E M).hp.heap 5 [2], Hint.b false, Hint.lp k2 (Ex.exit 2) (o2S m n f E M a b).tmps (o2H m n f E M) 7 [2], Hint.b false, Hint.lp k4 (Ex.exit 6) (o4S m n f E M a b).tmps (o2H m n f E M) 7 [2], Hint.b true, Hint.b true, Hint.b true, Hint.b true], [], [], false⟩).map (fun x => (x.1, x.2.ob, noneIn (onH m f) x.2.wr)) =
 some (AV.bool true, [(Int.ofNat (cntB (bornP 0 (entF E) 18446744073709551615) n) == Int.ofNat (cntB (o4P E) n)) = true,
 n ≤ n,
 0 < n,
 n ≤ 1000000,
 (Int.ofNat (cntB (bornP 0 (entF E) 0) n) == 0) = true,
 n ≤ n,
 0 < n,
 n ≤ 1000000,
 decide (Int.ofNat (cntB (bornP 0 (entF E) a) n) ≤ Int.ofNat (cntB (bornP 0 (entF E) b) n)) = true,
 n ≤ n,
 0 < n,
 n ≤ 1000000,
 n ≤ n,
 0 < n,
 n ≤ 1000000,
 (Int.ofNat n == Int.ofNat n) = true,
 onL4 m n f E M a b,
 decide (a > b) = false,
 onL2 m n f E M a b,
 (Nat.blt 0 (capOr (some n) n) || Nat.beq 0 0) = true,
 (n.ble (capOr (some n) n) && decide (0 ≤ Int.ofNat n)) = true,
 (n.ble (capOr none n) && decide (0 ≤ Int.ofNat n)) = true,
 n.beq 0 = false,
 (n * 40).ble 70368744177664 = true,
 (0 + n).ble n = true,
 Nat.blt 0 n = true,
 onL1B m n f E M a b,
 decide (Int.ofNat m > 100) = false], true) := by kernel_rfl
theorem lawD_1 : (callF EB 2000 3 (onA m a b) ⟨(onH m f), 2, gnm 0, [Hint.b false, Hint.lp k1 (Ex.exit 0) (o1SB m f a b n E M).tmps (o1SB m f a b n E M).hp.heap 5 [2], Hint.b false, Hint.lp k2 (Ex.exit 2) (o2S m n f E M a b).tmps (o2H m n f E M) 7 [2], Hint.b true, Hint.lp k4 (Ex.exit 6) (o4S m n f E M b a).tmps (o2H m n f E M) 7 [2], Hint.b true, Hint.b true, Hint.b true, Hint.b true], [], [], false⟩).map (fun x => (x.1, x.2.ob, noneIn (onH m f) x.2.wr)) =
 some (AV.bool true, [(Int.ofNat (cntB (bornP 0 (entF E) 18446744073709551615) n) == Int.ofNat (cntB (o4P E) n)) = true,
 n ≤ n,
 0 < n,
 n ≤ 1000000,
 (Int.ofNat (cntB (bornP 0 (entF E) 0) n) == 0) = true,
 n ≤ n,
 0 < n,
 n ≤ 1000000,
 decide (Int.ofNat (cntB (bornP 0 (entF E) b) n) ≤ Int.ofNat (cntB (bornP 0 (entF E) a) n)) = true,
 n ≤ n,
 0 < n,
 n ≤ 1000000,
 n ≤ n,
 0 < n,
 n ≤ 1000000,
 (Int.ofNat n == Int.ofNat n) = true,
 onL4 m n f E M b a,
 decide (a > b) = true,
 onL2 m n f E M a b,
 (Nat.blt 0 (capOr (some n) n) || Nat.beq 0 0) = true,
 (n.ble (capOr (some n) n) && decide (0 ≤ Int.ofNat n)) = true,
 (n.ble (capOr none n) && decide (0 ≤ Int.ofNat n)) = true,
 n.beq 0 = false,
 (n * 40).ble 70368744177664 = true,
 (0 + n).ble n = true,
 Nat.blt 0 n = true,
 onL1B m n f E M a b,
 decide (Int.ofNat m > 100) = false], true) := by kernel_rfl
theorem lawC_runs (hm : m > 100) : Runs (onRun m f a b) := by
  refine ⟨_, _, _, lawC_1 .., .inl rfl, (ob_cons ?_ ob_nil)⟩
  · -- decide (Int.ofNat m > 100) = true
    first | (apply Nat.ble_eq_true_of_le; omega) | (simp [Nat.blt_eq]; omega)
theorem lawA_runs (hm : ¬ m > 100) (hn : (lsN (inE f) m).n = 0) : Runs (onRun m f a b) := by
  cases h1 : (decide (a > b)) with
  | true =>
    have g1 := of_decide_eq_true h1
    try simp only [Int.ofNat_eq_natCast, ge_iff_le, gt_iff_lt, Int.not_lt, Int.not_le] at g1
    refine ⟨_, _, _, lawA_1 .., .inl rfl, (ob_cons h1 (ob_cons ?_ (ob_cons ?_ ob_nil)))⟩
    · -- onL1A m f a b
      first | trivial | exact o1_lpA m f a b (by omega) hn | (simp; omega)
    · -- decide (Int.ofNat m > 100) = false
      first | (apply Nat.ble_eq_true_of_le; omega) | (simp [Nat.blt_eq]; omega) | exact o1_lpA m f a b (by omega) hn | (simp; omega)
  | false =>
    have g1 := of_decide_eq_false h1
    try simp only [Int.ofNat_eq_natCast, ge_iff_le, gt_iff_lt, Int.not_lt, Int.not_le] at g1
    refine ⟨_, _, _, lawA_2 .., .inl rfl, (ob_cons h1 (ob_cons ?_ (ob_cons ?_ ob_nil)))⟩
    · -- onL1A m f a b
      first | trivial | exact o1_lpA m f a b (by omega) hn | (simp; omega)
    · -- decide (Int.ofNat m > 100) = false
      first | (apply Nat.ble_eq_true_of_le; omega) | (simp [Nat.blt_eq]; omega) | exact o1_lpA m f a b (by omega) hn | (simp; omega)
theorem lawB_runs (hm : ¬ m > 100) (hn0 : 0 < n) (hn : n ≤ 100) (h1 : onL1B m n f E M a b) (hu : Uniq n E) (hq : ∀ i, i < n → 0 ≤ (E i).birth ∧ (E i).birth < 18446744073709551616) (hab : ¬ a > b) : Runs (onRun m f a b) := by
  refine ⟨_, _, _, lawB_1 m n f E M a b, .inl rfl, (ob_cons ?_ (ob_cons (Nat.le_refl _) (ob_cons ?_ (ob_cons ?_ (ob_cons ?_ (ob_cons (Nat.le_refl _) (ob_cons ?_ (ob_cons ?_ (ob_cons ?_ (ob_cons (Nat.le_refl _) (ob_cons ?_ (ob_cons ?_ (ob_cons (Nat.le_refl _) (ob_cons ?_ (ob_cons ?_ (ob_cons ?_ (ob_cons ?_ (ob_cons ?_ (ob_cons ?_ (ob_cons ?_ (ob_cons ?_ (ob_cons ?_ (ob_cons ?_ (ob_cons ?_ (ob_cons ?_ (ob_cons ?_ (ob_cons ?_ (ob_cons ?_ ob_nil))))))))))))))))))))))))))))⟩
  · -- (Int.ofNat (cntB (bornP 0 (entF E) 18446744073709551615) n) == Int.ofNat (cntB (o4P E) n)) = true
    first | (apply Nat.ble_eq_true_of_le; omega) | (simp [Nat.blt_eq]; omega) | exact fin_max hq | exact fin_zero hq | exact fin_le (by omega) | exact h1 | exact o2_lp m n f E M a b hu (by omega) | exact o4_lp m n f E M a b (by omega) | (simp [capOr]; done) | (simp; omega) | (rw [← Bool.not_eq_true, Nat.beq_eq]; omega)
  · -- 0 < n
    first | omega | exact fin_max hq | exact fin_zero hq | exact fin_le (by omega) | exact h1 | exact o2_lp m n f E M a b hu (by omega) | exact o4_lp m n f E M a b (by omega) | (simp [capOr]; done) | (simp; omega) | (rw [← Bool.not_eq_true, Nat.beq_eq]; omega)
  · -- n ≤ 1000000
    first | exact Nat.le_refl _ | omega | exact fin_max hq | exact fin_zero hq | exact fin_le (by omega) | exact h1 | exact o2_lp m n f E M a b hu (by omega) | exact o4_lp m n f E M a b (by omega) | (simp [capOr]; done) | (simp; omega) | (rw [← Bool.not_eq_true, Nat.beq_eq]; omega)
  · -- (Int.ofNat (cntB (bornP 0 (entF E) 0) n) == 0) = true
    first | (apply Nat.ble_eq_true_of_le; omega) | (simp [Nat.blt_eq]; omega) | exact fin_max hq | exact fin_zero hq | exact fin_le (by omega) | exact h1 | exact o2_lp m n f E M a b hu (by omega) | exact o4_lp m n f E M a b (by omega) | (simp [capOr]; done) | (simp; omega) | (rw [← Bool.not_eq_true, Nat.beq_eq]; omega)
  · -- 0 < n
    first | omega | exact fin_max hq | exact fin_zero hq | exact fin_le (by omega) | exact h1 | exact o2_lp m n f E M a b hu (by omega) | exact o4_lp m n f E M a b (by omega) | (simp [capOr]; done) | (simp; omega) | (rw [← Bool.not_eq_true, Nat.beq_eq]; omega)
  · -- n ≤ 1000000
    first | exact Nat.le_refl _ | omega | exact fin_max hq | exact fin_zero hq | exact fin_le (by omega) | exact h1 | exact o2_lp m n f E M a b hu (by omega) | exact o4_lp m n f E M a b (by omega) | (simp [capOr]; done) | (simp; omega) | (rw [← Bool.not_eq_true, Nat.beq_eq]; omega)
  · -- decide (Int.ofNat (cntB (bornP 0 (entF E) a) n) ≤ Int.ofNat (cntB (bornP 0 (entF E) b) n)) = true
    first | (apply Nat.ble_eq_true_of_le; omega) | (simp [Nat.blt_eq]; omega) | exact fin_max hq | exact fin_zero hq | exact fin_le (by omega) | exact h1 | exact o2_lp m n f E M a b hu (by omega) | exact o4_lp m n f E M a b (by omega) | (simp [capOr]; done) | (simp; omega) | (rw [← Bool.not_eq_true, Nat.beq_eq]; omega)
  · -- 0 < n
    first | omega | exact fin_max hq | exact fin_zero hq | exact fin_le (by omega) | exact h1 | exact o2_lp m n f E M a b hu (by omega) | exact o4_lp m n f E M a b (by omega) | (simp [capOr]; done) | (simp; omega) | (rw [← Bool.not_eq_true, Nat.beq_eq]; omega)
  · -- n ≤ 1000000
    first | exact Nat.le_refl _ | omega | exact fin_max hq | exact fin_zero hq | exact fin_le (by omega) | exact h1 | exact o2_lp m n f E M a b hu (by omega) | exact o4_lp m n f E M a b (by omega) | (simp [capOr]; done) | (simp; omega) | (rw [← Bool.not_eq_true, Nat.beq_eq]; omega)
  · -- 0 < n
    first | omega | exact fin_max hq | exact fin_zero hq | exact fin_le (by omega) | exact h1 | exact o2_lp m n f E M a b hu (by omega) | exact o4_lp m n f E M a b (by omega) | (simp [capOr]; done) | (simp; omega) | (rw [← Bool.not_eq_true, Nat.beq_eq]; omega)
  · -- n ≤ 1000000
    first | exact Nat.le_refl _ | omega | exact fin_max hq | exact fin_zero hq | exact fin_le (by omega) | exact h1 | exact o2_lp m n f E M a b hu (by omega) | exact o4_lp m n f E M a b (by omega) | (simp [capOr]; done) | (simp; omega) | (rw [← Bool.not_eq_true, Nat.beq_eq]; omega)
  · -- (Int.ofNat n == Int.ofNat n) = true
    first | (apply Nat.ble_eq_true_of_le; omega) | (simp [Nat.blt_eq]; omega) | exact fin_max hq | exact fin_zero hq | exact fin_le (by omega) | exact h1 | exact o2_lp m n f E M a b hu (by omega) | exact o4_lp m n f E M a b (by omega) | (simp [capOr]; done) | (simp; omega) | (rw [← Bool.not_eq_true, Nat.beq_eq]; omega)
  · -- onL4 m n f E M a b
    first | trivial | exact fin_max hq | exact fin_zero hq | exact fin_le (by omega) | exact h1 | exact o2_lp m n f E M a b hu (by omega) | exact o4_lp m n f E M a b (by omega) | (simp [capOr]; done) | (simp; omega) | (rw [← Bool.not_eq_true, Nat.beq_eq]; omega)
  · -- decide (a > b) = false
    first | (apply Nat.ble_eq_true_of_le; omega) | (simp [Nat.blt_eq]; omega) | exact fin_max hq | exact fin_zero hq | exact fin_le (by omega) | exact h1 | exact o2_lp m n f E M a b hu (by omega) | exact o4_lp m n f E M a b (by omega) | (simp [capOr]; done) | (simp; omega) | (rw [← Bool.not_eq_true, Nat.beq_eq]; omega)
  · -- onL2 m n f E M a b
    first | trivial | exact fin_max hq | exact fin_zero hq | exact fin_le (by omega) | exact h1 | exact o2_lp m n f E M a b hu (by omega) | exact o4_lp m n f E M a b (by omega) | (simp [capOr]; done) | (simp; omega) | (rw [← Bool.not_eq_true, Nat.beq_eq]; omega)
  · -- (Nat.blt 0 (capOr (some n) n) || Nat.beq 0 0) = true
    first | (apply Nat.ble_eq_true_of_le; omega) | (simp [Nat.blt_eq]; omega) | exact fin_max hq | exact fin_zero hq | exact fin_le (by omega) | exact h1 | exact o2_lp m n f E M a b hu (by omega) | exact o4_lp m n f E M a b (by omega) | (simp [capOr]; done) | (simp; omega) | (rw [← Bool.not_eq_true, Nat.beq_eq]; omega)
  · -- (n.ble (capOr (some n) n) && decide (0 ≤ Int.ofNat n)) = true
    first | (apply Nat.ble_eq_true_of_le; omega) | (simp [Nat.blt_eq]; omega) | exact fin_max hq | exact fin_zero hq | exact fin_le (by omega) | exact h1 | exact o2_lp m n f E M a b hu (by omega) | exact o4_lp m n f E M a b (by omega) | (simp [capOr]; done) | (simp; omega) | (rw [← Bool.not_eq_true, Nat.beq_eq]; omega)
  · -- (n.ble (capOr none n) && decide (0 ≤ Int.ofNat n)) = true
    first | (apply Nat.ble_eq_true_of_le; omega) | (simp [Nat.blt_eq]; omega) | exact fin_max hq | exact fin_zero hq | exact fin_le (by omega) | exact h1 | exact o2_lp m n f E M a b hu (by omega) | exact o4_lp m n f E M a b (by omega) | (simp [capOr]; done) | (simp; omega) | (rw [← Bool.not_eq_true, Nat.beq_eq]; omega)
  · -- n.beq 0 = false
    first | (apply Nat.ble_eq_true_of_le; omega) | (simp [Nat.blt_eq]; omega) | exact fin_max hq | exact fin_zero hq | exact fin_le (by omega) | exact h1 | exact o2_lp m n f E M a b hu (by omega) | exact o4_lp m n f E M a b (by omega) | (simp [capOr]; done) | (simp; omega) | (rw [← Bool.not_eq_true, Nat.beq_eq]; omega)
  · -- (n * 40).ble 70368744177664 = true
    first | (apply Nat.ble_eq_true_of_le; omega) | (simp [Nat.blt_eq]; omega) | exact fin_max hq | exact fin_zero hq | exact fin_le (by omega) | exact h1 | exact o2_lp m n f E M a b hu (by omega) | exact o4_lp m n f E M a b (by omega) | (simp [capOr]; done) | (simp; omega) | (rw [← Bool.not_eq_true, Nat.beq_eq]; omega)
  · -- (0 + n).ble n = true
    first | (apply Nat.ble_eq_true_of_le; omega) | (simp [Nat.blt_eq]; omega) | exact fin_max hq | exact fin_zero hq | exact fin_le (by omega) | exact h1 | exact o2_lp m n f E M a b hu (by omega) | exact o4_lp m n f E M a b (by omega) | (simp [capOr]; done) | (simp; omega) | (rw [← Bool.not_eq_true, Nat.beq_eq]; omega)
  · -- Nat.blt 0 n = true
    first | (apply Nat.ble_eq_true_of_le; omega) | (simp [Nat.blt_eq]; omega) | exact fin_max hq | exact fin_zero hq | exact fin_le (by omega) | exact h1 | exact o2_lp m n f E M a b hu (by omega) | exact o4_lp m n f E M a b (by omega) | (simp [capOr]; done) | (simp; omega) | (rw [← Bool.not_eq_true, Nat.beq_eq]; omega)
  · -- onL1B m n f E M a b
    first | trivial | exact fin_max hq | exact fin_zero hq | exact fin_le (by omega) | exact h1 | exact o2_lp m n f E M a b hu (by omega) | exact o4_lp m n f E M a b (by omega) | (simp [capOr]; done) | (simp; omega) | (rw [← Bool.not_eq_true, Nat.beq_eq]; omega)
  · -- decide (Int.ofNat m > 100) = false
    first | (apply Nat.ble_eq_true_of_le; omega) | (simp [Nat.blt_eq]; omega) | exact fin_max hq | exact fin_zero hq | exact fin_le (by omega) | exact h1 | exact o2_lp m n f E M a b hu (by omega) | exact o4_lp m n f E M a b (by omega) | (simp [capOr]; done) | (simp; omega) | (rw [← Bool.not_eq_true, Nat.beq_eq]; omega)
theorem lawD_runs (hm : ¬ m > 100) (hn0 : 0 < n) (hn : n ≤ 100) (h1 : onL1B m n f E M a b) (hu : Uniq n E) (hq : ∀ i, i < n → 0 ≤ (E i).birth ∧ (E i).birth < 18446744073709551616) (hab : a > b) : Runs (onRun m f a b) := by
  refine ⟨_, _, _, lawD_1 m n f E M a b, .inl rfl, (ob_cons ?_ (ob_cons (Nat.le_refl _) (ob_cons ?_ (ob_cons ?_ (ob_cons ?_ (ob_cons (Nat.le_refl _) (ob_cons ?_ (ob_cons ?_ (ob_cons ?_ (ob_cons (Nat.le_refl _) (ob_cons ?_ (ob_cons ?_ (ob_cons (Nat.le_refl _) (ob_cons ?_ (ob_cons ?_ (ob_cons ?_ (ob_cons ?_ (ob_cons ?_ (ob_cons ?_ (ob_cons ?_ (ob_cons ?_ (ob_cons ?_ (ob_cons ?_ (ob_cons ?_ (ob_cons ?_ (ob_cons ?_ (ob_cons ?_ (ob_cons ?_ ob_nil))))))))))))))))))))))))))))⟩
  · -- (Int.ofNat (cntB (bornP 0 (entF E) 18446744073709551615) n) == Int.ofNat (cntB (o4P E) n)) = true
    first | (apply Nat.ble_eq_true_of_le; omega) | (simp [Nat.blt_eq]; omega) | exact fin_max hq | exact fin_zero hq | exact fin_le (by omega) | exact h1 | exact o2_lp m n f E M a b hu (by omega) | exact o4_lp m n f E M b a (by omega) | (simp [capOr]; done) | (simp; omega) | (rw [← Bool.not_eq_true, Nat.beq_eq]; omega)
  · -- 0 < n
    first | omega | exact fin_max hq | exact fin_zero hq | exact fin_le (by omega) | exact h1 | exact o2_lp m n f E M a b hu (by omega) | exact o4_lp m n f E M b a (by omega) | (simp [capOr]; done) | (simp; omega) | (rw [← Bool.not_eq_true, Nat.beq_eq]; omega)
  · -- n ≤ 1000000
    first | exact Nat.le_refl _ | omega | exact fin_max hq | exact fin_zero hq | exact fin_le (by omega) | exact h1 | exact o2_lp m n f E M a b hu (by omega) | exact o4_lp m n f E M b a (by omega) | (simp [capOr]; done) | (simp; omega) | (rw [← Bool.not_eq_true, Nat.beq_eq]; omega)
  · -- (Int.ofNat (cntB (bornP 0 (entF E) 0) n) == 0) = true
    first | (apply Nat.ble_eq_true_of_le; omega) | (simp [Nat.blt_eq]; omega) | exact fin_max hq | exact fin_zero hq | exact fin_le (by omega) | exact h1 | exact o2_lp m n f E M a b hu (by omega) | exact o4_lp m n f E M b a (by omega) | (simp [capOr]; done) | (simp; omega) | (rw [← Bool.not_eq_true, Nat.beq_eq]; omega)
  · -- 0 < n
    first | omega | exact fin_max hq | exact fin_zero hq | exact fin_le (by omega) | exact h1 | exact o2_lp m n f E M a b hu (by omega) | exact o4_lp m n f E M b a (by omega) | (simp [capOr]; done) | (simp; omega) | (rw [← Bool.not_eq_true, Nat.beq_eq]; omega)
  · -- n ≤ 1000000
    first | exact Nat.le_refl _ | omega | exact fin_max hq | exact fin_zero hq | exact fin_le (by omega) | exact h1 | exact o2_lp m n f E M a b hu (by omega) | exact o4_lp m n f E M b a (by omega) | (simp [capOr]; done) | (simp; omega) | (rw [← Bool.not_eq_true, Nat.beq_eq]; omega)
  · -- decide (Int.ofNat (cntB (bornP 0 (entF E) b) n) ≤ Int.ofNat (cntB (bornP 0 (entF E) a) n)) = true
    first | (apply Nat.ble_eq_true_of_le; omega) | (simp [Nat.blt_eq]; omega) | exact fin_max hq | exact fin_zero hq | exact fin_le (by omega) | exact h1 | exact o2_lp m n f E M a b hu (by omega) | exact o4_lp m n f E M b a (by omega) | (simp [capOr]; done) | (simp; omega) | (rw [← Bool.not_eq_true, Nat.beq_eq]; omega)
  · -- 0 < n
    first | omega | exact fin_max hq | exact fin_zero hq | exact fin_le (by omega) | exact h1 | exact o2_lp m n f E M a b hu (by omega) | exact o4_lp m n f E M b a (by omega) | (simp [capOr]; done) | (simp; omega) | (rw [← Bool.not_eq_true, Nat.beq_eq]; omega)
  · -- n ≤ 1000000
    first | exact Nat.le_refl _ | omega | exact fin_max hq | exact fin_zero hq | exact fin_le (by omega) | exact h1 | exact o2_lp m n f E M a b hu (by omega) | exact o4_lp m n f E M b a (by omega) | (simp [capOr]; done) | (simp; omega) | (rw [← Bool.not_eq_true, Nat.beq_eq]; omega)
  · -- 0 < n
    first | omega | exact fin_max hq | exact fin_zero hq | exact fin_le (by omega) | exact h1 | exact o2_lp m n f E M a b hu (by omega) | exact o4_lp m n f E M b a (by omega) | (simp [capOr]; done) | (simp; omega) | (rw [← Bool.not_eq_true, Nat.beq_eq]; omega)
  · -- n ≤ 1000000
    first | exact Nat.le_refl _ | omega | exact fin_max hq | exact fin_zero hq | exact fin_le (by omega) | exact h1 | exact o2_lp m n f E M a b hu (by omega) | exact o4_lp m n f E M b a (by omega) | (simp [capOr]; done) | (simp; omega) | (rw [← Bool.not_eq_true, Nat.beq_eq]; omega)
  · -- (Int.ofNat n == Int.ofNat n) = true
    first | (apply Nat.ble_eq_true_of_le; omega) | (simp [Nat.blt_eq]; omega) | exact fin_max hq | exact fin_zero hq | exact fin_le (by omega) | exact h1 | exact o2_lp m n f E M a b hu (by omega) | exact o4_lp m n f E M b a (by omega) | (simp [capOr]; done) | (simp; omega) | (rw [← Bool.not_eq_true, Nat.beq_eq]; omega)
  · -- onL4 m n f E M b a
    first | trivial | exact fin_max hq | exact fin_zero hq | exact fin_le (by omega) | exact h1 | exact o2_lp m n f E M a b hu (by omega) | exact o4_lp m n f E M b a (by omega) | (simp [capOr]; done) | (simp; omega) | (rw [← Bool.not_eq_true, Nat.beq_eq]; omega)
  · -- decide (a > b) = true
    first | (apply Nat.ble_eq_true_of_le; omega) | (simp [Nat.blt_eq]; omega) | exact fin_max hq | exact fin_zero hq | exact fin_le (by omega) | exact h1 | exact o2_lp m n f E M a b hu (by omega) | exact o4_lp m n f E M b a (by omega) | (simp [capOr]; done) | (simp; omega) | (rw [← Bool.not_eq_true, Nat.beq_eq]; omega)
  · -- onL2 m n f E M a b
    first | trivial | exact fin_max hq | exact fin_zero hq | exact fin_le (by omega) | exact h1 | exact o2_lp m n f E M a b hu (by omega) | exact o4_lp m n f E M b a (by omega) | (simp [capOr]; done) | (simp; omega) | (rw [← Bool.not_eq_true, Nat.beq_eq]; omega)
  · -- (Nat.blt 0 (capOr (some n) n) || Nat.beq 0 0) = true
    first | (apply Nat.ble_eq_true_of_le; omega) | (simp [Nat.blt_eq]; omega) | exact fin_max hq | exact fin_zero hq | exact fin_le (by omega) | exact h1 | exact o2_lp m n f E M a b hu (by omega) | exact o4_lp m n f E M b a (by omega) | (simp [capOr]; done) | (simp; omega) | (rw [← Bool.not_eq_true, Nat.beq_eq]; omega)
  · -- (n.ble (capOr (some n) n) && decide (0 ≤ Int.ofNat n)) = true
    first | (apply Nat.ble_eq_true_of_le; omega) | (simp [Nat.blt_eq]; omega) | exact fin_max hq | exact fin_zero hq | exact fin_le (by omega) | exact h1 | exact o2_lp m n f E M a b hu (by omega) | exact o4_lp m n f E M b a (by omega) | (simp [capOr]; done) | (simp; omega) | (rw [← Bool.not_eq_true, Nat.beq_eq]; omega)
  · -- (n.ble (capOr none n) && decide (0 ≤ Int.ofNat n)) = true
    first | (apply Nat.ble_eq_true_of_le; omega) | (simp [Nat.blt_eq]; omega) | exact fin_max hq | exact fin_zero hq | exact fin_le (by omega) | exact h1 | exact o2_lp m n f E M a b hu (by omega) | exact o4_lp m n f E M b a (by omega) | (simp [capOr]; done) | (simp; omega) | (rw [← Bool.not_eq_true, Nat.beq_eq]; omega)
  · -- n.beq 0 = false
    first | (apply Nat.ble_eq_true_of_le; omega) | (simp [Nat.blt_eq]; omega) | exact fin_max hq | exact fin_zero hq | exact fin_le (by omega) | exact h1 | exact o2_lp m n f E M a b hu (by omega) | exact o4_lp m n f E M b a (by omega) | (simp [capOr]; done) | (simp; omega) | (rw [← Bool.not_eq_true, Nat.beq_eq]; omega)
  · -- (n * 40).ble 70368744177664 = true
    first | (apply Nat.ble_eq_true_of_le; omega) | (simp [Nat.blt_eq]; omega) | exact fin_max hq | exact fin_zero hq | exact fin_le (by omega) | exact h1 | exact o2_lp m n f E M a b hu (by omega) | exact o4_lp m n f E M b a (by omega) | (simp [capOr]; done) | (simp; omega) | (rw [← Bool.not_eq_true, Nat.beq_eq]; omega)
  · -- (0 + n).ble n = true
    first | (apply Nat.ble_eq_true_of_le; omega) | (simp [Nat.blt_eq]; omega) | exact fin_max hq | exact fin_zero hq | exact fin_le (by omega) | exact h1 | exact o2_lp m n f E M a b hu (by omega) | exact o4_lp m n f E M b a (by omega) | (simp [capOr]; done) | (simp; omega) | (rw [← Bool.not_eq_true, Nat.beq_eq]; omega)
  · -- Nat.blt 0 n = true
    first | (apply Nat.ble_eq_true_of_le; omega) | (simp [Nat.blt_eq]; omega) | exact fin_max hq | exact fin_zero hq | exact fin_le (by omega) | exact h1 | exact o2_lp m n f E M a b hu (by omega) | exact o4_lp m n f E M b a (by omega) | (simp [capOr]; done) | (simp; omega) | (rw [← Bool.not_eq_true, Nat.beq_eq]; omega)
  · -- onL1B m n f E M a b
    first | trivial | exact fin_max hq | exact fin_zero hq | exact fin_le (by omega) | exact h1 | exact o2_lp m n f E M a b hu (by omega) | exact o4_lp m n f E M b a (by omega) | (simp [capOr]; done) | (simp; omega) | (rw [← Bool.not_eq_true, Nat.beq_eq]; omega)
  · -- decide (Int.ofNat m > 100) = false
    first | (apply Nat.ble_eq_true_of_le; omega) | (simp [Nat.blt_eq]; omega) | exact fin_max hq | exact fin_zero hq | exact fin_le (by omega) | exact h1 | exact o2_lp m n f E M a b hu (by omega) | exact o4_lp m n f E M b a (by omega) | (simp [capOr]; done) | (simp; omega) | (rw [← Bool.not_eq_true, Nat.beq_eq]; omega)
theorem on_runs (hr : ∀ i, i < m → 0 ≤ avInt (f i 3) ∧ avInt (f i 3) < 18446744073709551616) : Runs (onRun m f a b) := by
  by_cases hm : m > 100
  · exact lawC_runs m f a b hm
  have hle := lsN_le (inE f) m
  have inv : LInv (fun e => 0 ≤ e.birth ∧ e.birth < 18446744073709551616) (lsN (inE f) m) := lsN_inv (inE f) m (fun k hk => by
    show 0 ≤ avInt (f (0 + k) 3) ∧ avInt (f (0 + k) 3) < 18446744073709551616
    rw [Nat.zero_add]; exact hr k hk)
  by_cases hn : (lsN (inE f) m).n = 0
  · exact lawA_runs m f a b hm hn
  by_cases hab : a > b
  · exact lawD_runs m _ f _ _ a b hm (by omega) (by omega) (o1_lpB m f a b (by omega) (by omega)) inv.uniq inv.from_ hab
  · exact lawB_runs m _ f _ _ a b hm (by omega) (by omega) (o1_lpB m f a b (by omega) (by omega)) inv.uniq inv.from_ hab
end

theorem own : ownKnob Try.prog.godebug = none := by kernel_rfl
theorem laidOut : laidOutB Try.prog = true := by kernel_rfl
theorem k33 : flatK Try.prog 4 33 = some eSh := by kernel_rfl

theorem retiresOnce_runs : LawRuns Try.prog 3 [22, 23, 23] := by
  intro H enc W base args ds p hval hA
  obtain ⟨v0, v1, v2, d0, d1, d2, p0, p1, p2, hargs, rfl, rfl, h0, h1, h2⟩ := trodAll_three (args := args.toArray) hA
  obtain rfl : args = [v0, v1, v2] := by simpa using congrArg Array.toList hargs
  obtain ⟨fuel, h0⟩ := h0
  obtain ⟨c, l, k, rfl⟩ := okWide_slice Try.underlying22 (hval 0 22 v0 rfl rfl)
  obtain ⟨a, rfl⟩ := okWide_int Try.underlying23 (hval 1 23 v1 rfl rfl)
  obtain ⟨b, rfl⟩ := okWide_int Try.underlying23 (hval 2 23 v2 rfl rfl)
  obtain ⟨L, len, num, bit, hw, hs, hl, hm, hn, hob, hwf⟩ := open_rows Try.underlying22 k33 (by kernel_rfl) (by decide) (okWide_spot Try.underlying22 (hval 0 22 _ rfl rfl)) (by simpa [Value.cells] using h0)
  obtain ⟨h, v, ob, hr, hv, ho⟩ := on_runs len (rowAV eSh num bit) a b (fun i hi => by
    have := hwf i hi 3 .u64 rfl
    exact u64_range this)
  have := run_law' (W := W) (ls := [(1, L)]) EB_ok hr hv ho (heapRep_one hob) (xs := [.slice c l k, .int .u64 a, .int .u64 b])
    (by
      simp only [onA, denL, den, inp_one]
      have hs : L.slice 6 0 len none = some (.slice c l k) := hs
      simp [hs]) rfl (by decide) (Nat.le_refl _)
  exact this

set_option maxRecDepth 100000 in
theorem retiresOnce_lifted (os : Os) (started : os.Started) (H : Type) (enc : TypeId × Value → H) :
    ReturnsInHanded {} Try.checked os 3 .any (Rows.retiresOnceSpec.pre6 enc Try.prog Try.f3 Rows.retiresOnceRow.domain false) (Rows.retiresOnceSpec.post enc Try.prog Try.f3 false true false false) := by
  refine returnsInHanded_of_change (C := Try.checked) own started (by kernel_rfl) Try.func3
    (ChangeSpec.witness6 (enc := enc) (C := Try.checked) false ⟨#[], #[.slice none 0 0, .int .u64 0, .int .u64 0], []⟩ 8 (by kernel_rfl) (by kernel_rfl) (by kernel_rfl) (by kernel_rfl)) ?_
  intro W base args ds gs before hval0 hW hcnd _
  exact law_contract Try.params3 retiresOnce_runs laidOut (of_decide_eq_true (by kernel_rfl)) (by kernel_rfl) Try.underlying4 rfl
    (fun ds hl => by match ds, hl with | [d0, d1, d2], _ => exact ⟨rfl, rfl, rfl⟩) W base args ds gs before hval0 hW

theorem retiresOnce_holds : Rows.RetiresOnceSaid :=
  OpenClaim.holds_of_wide 3 Try.f3 rfl rfl rfl rfl rfl rfl rfl ⟨rfl, rfl, rfl, rfl, rfl⟩ rfl rfl rfl rfl rfl (by kernel_rfl) Try.func3 (by kernel_rfl)
    (of_decide_eq_true (by kernel_rfl)) (by unfold Func.isWrapper; first | (rw [if_pos (by decide +kernel)]; kernel_rfl) | (rw [if_neg (by decide +kernel)]; exact ⟨rfl, rfl⟩))
    (fun os started H enc _ => retiresOnce_lifted os started H enc)

#print axioms retiresOnce_holds
end Go.Proofs.Ytnecknppajbcdaa
