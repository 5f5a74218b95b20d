/-
  The document's memory: Word, put.
-/
import Derived.Test.YtmndhjodbnojdaaDoorJRefDef
set_option linter.unusedSimpArgs false
set_option linter.unusedVariables false
namespace Go.Proofs.YtmndhjodbnojdaaDoor
open Go.Ev
theorem rwdf_1 (kd ad fd : Int) (n l : Nat) (g : Nat → Nat → AV) (st c0 k0 a0 f0 w0 i0 : Int) (d0 : Bool) (ii : Nat) : roundB EMX 2000 rwdL ((rwdU kd ad fd n l g st c0 k0 a0 f0 w0 i0 d0).hp) [] (rwdT kd ad fd n l g st c0 k0 a0 f0 w0 i0 d0 ii) [Hint.b true, Hint.node [], Hint.b true] (rwdQ kd ad fd n l g st c0 k0 a0 f0 w0 i0 d0 ii) =
 some (Ex.ret, [avInt (g (0 + ii) 3) = avInt (g (0 + ii) 3),
 kd = kd,
 ad = ad,
 fd = fd,
 (0 : Nat) = 0,
 n = n,
 (none : Option Nat) = none,
 st = st,
 c0 = c0,
 k0 = k0,
 a0 = a0,
 f0 = f0,
 w0 = w0,
 i0 = i0,
 d0 = d0,
 false = false,
 l ≤ l,
 g = g ∧ plainSh wSh = true ∨ ∀ (i : Nat), i < l → rowOb wSh 0 (g i) (g i),
 (0 + ii).blt l = true,
 (ii.blt n && decide (0 ≤ Int.ofNat ii)) = true,
 (and2 (avInt (g (0 + ii) 0) == kd) (and2 (avInt (g (0 + ii) 1) == ad) (and2 (avInt (g (0 + ii) 2) == fd) true)) == true) = true,
 (0 + ii).blt l = true,
 (ii.blt n && decide (0 ≤ Int.ofNat ii)) = true,
 decide (Int.ofNat ii < Int.ofNat n) = true]) := by kernel_rfl
theorem rwdf_2 (kd ad fd : Int) (n l : Nat) (g : Nat → Nat → AV) (st c0 k0 a0 f0 w0 i0 : Int) (d0 : Bool) (ii : Nat) : roundB EMX 2000 rwdL ((rwdU kd ad fd n l g st c0 k0 a0 f0 w0 i0 d0).hp) [] (rwdT kd ad fd n l g st c0 k0 a0 f0 w0 i0 d0 ii) [Hint.b true, Hint.node [], Hint.b false] (rwdT kd ad fd n l g st c0 k0 a0 f0 w0 i0 d0 (ii + 1)) =
 some (Ex.norm, [(0 : Nat) = 0,
 (0 : Nat) = 0,
 (0 : Nat) = 0,
 (0 : Nat) = 0,
 IntKind.i64.wrap (Int.ofNat ii + 1) = Int.ofNat (ii + 1),
 kd = kd,
 ad = ad,
 fd = fd,
 (0 : Nat) = 0,
 n = n,
 (none : Option Nat) = none,
 st = st,
 c0 = c0,
 k0 = k0,
 a0 = a0,
 f0 = f0,
 w0 = w0,
 i0 = i0,
 d0 = d0,
 false = false,
 l ≤ l,
 g = g ∧ plainSh wSh = true ∨ ∀ (i : Nat), i < l → rowOb wSh 0 (g i) (g i),
 (and2 (avInt (g (0 + ii) 0) == kd) (and2 (avInt (g (0 + ii) 1) == ad) (and2 (avInt (g (0 + ii) 2) == fd) true)) == true) = false,
 (0 + ii).blt l = true,
 (ii.blt n && decide (0 ≤ Int.ofNat ii)) = true,
 decide (Int.ofNat ii < Int.ofNat n) = true]) := by kernel_rfl
theorem rwdn_2 (kd ad fd : Int) (n l : Nat) (g : Nat → Nat → AV) (st c0 k0 a0 f0 w0 i0 : Int) (d0 : Bool) (ii : Nat) : roundB EMX 2000 rwdL ((rwdU kd ad fd n l g st c0 k0 a0 f0 w0 i0 d0).hp) [] (rwdT kd ad fd n l g st c0 k0 a0 f0 w0 i0 d0 ii) [Hint.b true, Hint.node [], Hint.b false] (rwdT kd ad fd n l g st c0 k0 a0 f0 w0 i0 d0 (ii + 1)) =
 some (Ex.norm, [(0 : Nat) = 0,
 (0 : Nat) = 0,
 (0 : Nat) = 0,
 (0 : Nat) = 0,
 IntKind.i64.wrap (Int.ofNat ii + 1) = Int.ofNat (ii + 1),
 kd = kd,
 ad = ad,
 fd = fd,
 (0 : Nat) = 0,
 n = n,
 (none : Option Nat) = none,
 st = st,
 c0 = c0,
 k0 = k0,
 a0 = a0,
 f0 = f0,
 w0 = w0,
 i0 = i0,
 d0 = d0,
 false = false,
 l ≤ l,
 g = g ∧ plainSh wSh = true ∨ ∀ (i : Nat), i < l → rowOb wSh 0 (g i) (g i),
 (and2 (avInt (g (0 + ii) 0) == kd) (and2 (avInt (g (0 + ii) 1) == ad) (and2 (avInt (g (0 + ii) 2) == fd) true)) == true) = false,
 (0 + ii).blt l = true,
 (ii.blt n && decide (0 ≤ Int.ofNat ii)) = true,
 decide (Int.ofNat ii < Int.ofNat n) = true]) := by kernel_rfl
theorem rwdn_3 (kd ad fd : Int) (n l : Nat) (g : Nat → Nat → AV) (st c0 k0 a0 f0 w0 i0 : Int) (d0 : Bool) (ii : Nat) : roundB EMX 2000 rwdL ((rwdU kd ad fd n l g st c0 k0 a0 f0 w0 i0 d0).hp) [] (rwdT kd ad fd n l g st c0 k0 a0 f0 w0 i0 d0 ii) [Hint.b false] (rwdS kd ad fd n l g st c0 k0 a0 f0 w0 i0 d0) =
 some (Ex.exit 0, [kd = kd,
 ad = ad,
 fd = fd,
 (0 : Nat) = 0,
 n = n,
 (none : Option Nat) = none,
 st = st,
 c0 = c0,
 k0 = k0,
 a0 = a0,
 f0 = f0,
 w0 = w0,
 i0 = i0,
 d0 = d0,
 false = false,
 l ≤ l,
 g = g ∧ plainSh wSh = true ∨ ∀ (i : Nat), i < l → rowOb wSh 0 (g i) (g i),
 decide (Int.ofNat ii < Int.ofNat n) = false]) := by kernel_rfl
theorem rwdi_1 (kd ad fd : Int) (n l : Nat) (g : Nat → Nat → AV) (st c0 k0 a0 f0 w0 i0 : Int) (d0 : Bool) : castSt ((rwdU kd ad fd n l g st c0 k0 a0 f0 w0 i0 d0).hp) [] (rwdU kd ad fd n l g st c0 k0 a0 f0 w0 i0 d0) (rwdT kd ad fd n l g st c0 k0 a0 f0 w0 i0 d0 0) =
 some ([(0 : Nat) = 0,
 (0 : Nat) = 0,
 (0 : Nat) = 0,
 (0 : Nat) = 0,
 (0 : Int) = 0,
 kd = kd,
 ad = ad,
 fd = fd,
 (0 : Nat) = 0,
 n = n,
 (none : Option Nat) = none,
 st = st,
 c0 = c0,
 k0 = k0,
 a0 = a0,
 f0 = f0,
 w0 = w0,
 i0 = i0,
 d0 = d0,
 false = false,
 l ≤ l,
 g = g ∧ plainSh wSh = true ∨ ∀ (i : Nat), i < l → rowOb wSh 0 (g i) (g i)]) := by kernel_rfl
theorem rwdcf_1 (kd ad fd : Int) (n l : Nat) (g : Nat → Nat → AV) (st c0 k0 a0 f0 w0 i0 : Int) (d0 : Bool) (k : Nat) : callB EMX 2000 141 [AV.ptr 1 0 0, AV.agg [AV.sym IntKind.u8 kd, AV.sym IntKind.i64 ad, AV.sym IntKind.i64 fd]] (rwdH kd ad fd n l g st c0 k0 a0 f0 w0 i0 d0) (rwdR kd ad fd n l g st c0 k0 a0 f0 w0 i0 d0) [] [Hint.lp [0, 3, 4, 5] Ex.ret (rwdQ kd ad fd n l g st c0 k0 a0 f0 w0 i0 d0 k).tmps (rwdE kd ad fd n l g st c0 k0 a0 f0 w0 i0 d0) 4 []] =
 some ([avInt (g (0 + k) 3) = dWord (dOf n g) kd ad fd,
 (0 : Nat) = 0,
 n = n,
 (none : Option Nat) = none,
 st = st,
 c0 = c0,
 k0 = k0,
 a0 = a0,
 f0 = f0,
 w0 = w0,
 i0 = i0,
 d0 = d0,
 false = false,
 l ≤ l,
 g = g ∧ plainSh wSh = true ∨ ∀ (i : Nat), i < l → rowOb wSh 0 (g i) (g i),
 rwdLF kd ad fd n l g st c0 k0 a0 f0 w0 i0 d0 k]) := by kernel_rfl
theorem rwdcn_1 (kd ad fd : Int) (n l : Nat) (g : Nat → Nat → AV) (st c0 k0 a0 f0 w0 i0 : Int) (d0 : Bool) : callB EMX 2000 141 [AV.ptr 1 0 0, AV.agg [AV.sym IntKind.u8 kd, AV.sym IntKind.i64 ad, AV.sym IntKind.i64 fd]] (rwdH kd ad fd n l g st c0 k0 a0 f0 w0 i0 d0) (rwdR kd ad fd n l g st c0 k0 a0 f0 w0 i0 d0) [] [Hint.lp [0, 3, 4, 5] (Ex.exit 0) (rwdS kd ad fd n l g st c0 k0 a0 f0 w0 i0 d0).tmps (rwdE kd ad fd n l g st c0 k0 a0 f0 w0 i0 d0) 4 []] =
 some ([0 = dWord (dOf n g) kd ad fd,
 (0 : Nat) = 0,
 n = n,
 (none : Option Nat) = none,
 st = st,
 c0 = c0,
 k0 = k0,
 a0 = a0,
 f0 = f0,
 w0 = w0,
 i0 = i0,
 d0 = d0,
 false = false,
 l ≤ l,
 g = g ∧ plainSh wSh = true ∨ ∀ (i : Nat), i < l → rowOb wSh 0 (g i) (g i),
 rwdLN kd ad fd n l g st c0 k0 a0 f0 w0 i0 d0]) := by kernel_rfl
theorem rwd_lpf (kd ad fd : Int) (n l : Nat) (g : Nat → Nat → AV) (st c0 k0 a0 f0 w0 i0 : Int) (d0 : Bool) (hl : n ≤ l) (hm : n ≤ 1000000) (k : Nat) (hk : k < n) (qk2 : rwdP kd ad fd n l g st c0 k0 a0 f0 w0 i0 d0 k = true) (qk3 : ∀ i, i < k → rwdP kd ad fd n l g st c0 k0 a0 f0 w0 i0 d0 i = false) : rwdLF kd ad fd n l g st c0 k0 a0 f0 w0 i0 d0 k := by
  refine loop_rule EMX_ok (I := Nat) (fun i => rwdT kd ad fd n l g st c0 k0 a0 f0 w0 i0 d0 i) (fun i => k - i) (fun i => i ≤ k) ?_ (fun ii hi => ?_)
  ·
    refine ⟨0, [], _, Nat.zero_le _, rwdi_1 .., (ob_cons rfl (ob_cons rfl (ob_cons rfl (ob_cons rfl (ob_cons rfl (ob_cons rfl (ob_cons rfl (ob_cons rfl (ob_cons rfl (ob_cons rfl (ob_cons rfl (ob_cons rfl (ob_cons rfl (ob_cons rfl (ob_cons rfl (ob_cons rfl (ob_cons rfl (ob_cons rfl (ob_cons rfl (ob_cons rfl (ob_cons (Nat.le_refl _) (ob_cons (.inl ⟨rfl, rfl⟩) ob_nil))))))))))))))))))))))⟩
  cases h1 : (and2 (avInt (g (0 + ii) 0) == kd) (and2 (avInt (g (0 + ii) 1) == ad) (and2 (avInt (g (0 + ii) 2) == fd) true)) == true) with
  | true =>
    have hpp : rwdP kd ad fd n l g st c0 k0 a0 f0 w0 i0 d0 ii = true := by (unfold rwdP; (try rw [h1]); first | done | rfl | (simp; done) | (simp_all; done) | (simp_all [and2]; done))
    have hke : ii = k := by (rcases Nat.lt_or_ge ii k with q | q <;> first | (rw [qk3 ii q] at hpp; cases hpp) | omega)
    subst hke
    refine round_exit (s0 := rwdU kd ad fd n l g st c0 k0 a0 f0 w0 i0 d0) (rwdf_1 ..) (by simp) (ob_cons rfl (ob_cons rfl (ob_cons rfl (ob_cons rfl (ob_cons rfl (ob_cons rfl (ob_cons rfl (ob_cons rfl (ob_cons rfl (ob_cons rfl (ob_cons rfl (ob_cons rfl (ob_cons rfl (ob_cons rfl (ob_cons rfl (ob_cons rfl (ob_cons (Nat.le_refl _) (ob_cons (.inl ⟨rfl, rfl⟩) (ob_cons ?_ (ob_cons ?_ (ob_cons h1 (ob_cons ?_ (ob_cons ?_ (ob_cons ?_ ob_nil))))))))))))))))))))))))
    ·
      first | (apply Nat.ble_eq_true_of_le; omega) | (simp [Nat.blt_eq]; omega) | (simp; omega) | exact (dWord_at (D := dOf n g) hk qk2 qk3).symm | exact (dWord_no (D := dOf n g) qno).symm
    ·
      first | (apply Nat.ble_eq_true_of_le; omega) | (simp [Nat.blt_eq]; omega) | (simp; omega) | exact (dWord_at (D := dOf n g) hk qk2 qk3).symm | exact (dWord_no (D := dOf n g) qno).symm
    ·
      first | (apply Nat.ble_eq_true_of_le; omega) | (simp [Nat.blt_eq]; omega) | (simp; omega) | exact (dWord_at (D := dOf n g) hk qk2 qk3).symm | exact (dWord_no (D := dOf n g) qno).symm
    ·
      first | (apply Nat.ble_eq_true_of_le; omega) | (simp [Nat.blt_eq]; omega) | (simp; omega) | exact (dWord_at (D := dOf n g) hk qk2 qk3).symm | exact (dWord_no (D := dOf n g) qno).symm
    ·
      first | (apply Nat.ble_eq_true_of_le; omega) | (simp [Nat.blt_eq]; omega) | (simp; omega) | exact (dWord_at (D := dOf n g) hk qk2 qk3).symm | exact (dWord_no (D := dOf n g) qno).symm
  | false =>
    have hpp : rwdP kd ad fd n l g st c0 k0 a0 f0 w0 i0 d0 ii = false := by (unfold rwdP; (try rw [h1]); first | done | rfl | (simp; done) | (simp_all; done) | (simp_all [and2]; done))
    have hne : ii ≠ k := fun e => by (subst e; rw [qk2] at hpp; cases hpp)
    refine round_norm (s0 := rwdU kd ad fd n l g st c0 k0 a0 f0 w0 i0 d0) (ii + 1) (rwdf_2 ..) (ob_cons rfl (ob_cons rfl (ob_cons rfl (ob_cons rfl (ob_cons ?_ (ob_cons rfl (ob_cons rfl (ob_cons rfl (ob_cons rfl (ob_cons rfl (ob_cons rfl (ob_cons rfl (ob_cons rfl (ob_cons rfl (ob_cons rfl (ob_cons rfl (ob_cons rfl (ob_cons rfl (ob_cons rfl (ob_cons rfl (ob_cons (Nat.le_refl _) (ob_cons (.inl ⟨rfl, rfl⟩) (ob_cons h1 (ob_cons ?_ (ob_cons ?_ (ob_cons ?_ ob_nil)))))))))))))))))))))))))) (by show ii + 1 ≤ k; omega) (by show k - (ii + 1) < k - ii; omega)
    ·
      first | exact wrap_nat64 _ (by simp; omega) (by simp; omega) | (simp; omega) | exact (dWord_at (D := dOf n g) hk qk2 qk3).symm | exact (dWord_no (D := dOf n g) qno).symm
    ·
      first | (apply Nat.ble_eq_true_of_le; omega) | (simp [Nat.blt_eq]; omega) | (simp; omega) | exact (dWord_at (D := dOf n g) hk qk2 qk3).symm | exact (dWord_no (D := dOf n g) qno).symm
    ·
      first | (apply Nat.ble_eq_true_of_le; omega) | (simp [Nat.blt_eq]; omega) | (simp; omega) | exact (dWord_at (D := dOf n g) hk qk2 qk3).symm | exact (dWord_no (D := dOf n g) qno).symm
    ·
      first | (apply Nat.ble_eq_true_of_le; omega) | (simp [Nat.blt_eq]; omega) | (simp; omega) | exact (dWord_at (D := dOf n g) hk qk2 qk3).symm | exact (dWord_no (D := dOf n g) qno).symm
theorem rwd_lpn (kd ad fd : Int) (n l : Nat) (g : Nat → Nat → AV) (st c0 k0 a0 f0 w0 i0 : Int) (d0 : Bool) (hl : n ≤ l) (hm : n ≤ 1000000) (qno : ∀ i, i < n → rwdP kd ad fd n l g st c0 k0 a0 f0 w0 i0 d0 i = false) : rwdLN kd ad fd n l g st c0 k0 a0 f0 w0 i0 d0 := by
  refine loop_rule EMX_ok (I := Nat) (fun i => rwdT kd ad fd n l g st c0 k0 a0 f0 w0 i0 d0 i) (fun i => n - i) (fun i => i ≤ n) ?_ (fun ii hi => ?_)
  ·
    refine ⟨0, [], _, Nat.zero_le _, rwdi_1 .., (ob_cons rfl (ob_cons rfl (ob_cons rfl (ob_cons rfl (ob_cons rfl (ob_cons rfl (ob_cons rfl (ob_cons rfl (ob_cons rfl (ob_cons rfl (ob_cons rfl (ob_cons rfl (ob_cons rfl (ob_cons rfl (ob_cons rfl (ob_cons rfl (ob_cons rfl (ob_cons rfl (ob_cons rfl (ob_cons rfl (ob_cons (Nat.le_refl _) (ob_cons (.inl ⟨rfl, rfl⟩) ob_nil))))))))))))))))))))))⟩
  cases h1 : (decide (Int.ofNat ii < Int.ofNat n)) with
  | true =>
    have g1 := of_decide_eq_true h1
    try simp only [Int.ofNat_eq_natCast, ge_iff_le, gt_iff_lt, Int.not_lt, Int.not_le] at g1
    refine round_norm (s0 := rwdU kd ad fd n l g st c0 k0 a0 f0 w0 i0 d0) (ii + 1) (rwdn_2 ..) (ob_cons rfl (ob_cons rfl (ob_cons rfl (ob_cons rfl (ob_cons ?_ (ob_cons rfl (ob_cons rfl (ob_cons rfl (ob_cons rfl (ob_cons rfl (ob_cons rfl (ob_cons rfl (ob_cons rfl (ob_cons rfl (ob_cons rfl (ob_cons rfl (ob_cons rfl (ob_cons rfl (ob_cons rfl (ob_cons rfl (ob_cons (Nat.le_refl _) (ob_cons (.inl ⟨rfl, rfl⟩) (ob_cons ?_ (ob_cons ?_ (ob_cons ?_ (ob_cons h1 ob_nil)))))))))))))))))))))))))) (by show ii + 1 ≤ n; omega) (by show n - (ii + 1) < n - ii; omega)
    ·
      first | exact wrap_nat64 _ (by simp; omega) (by simp; omega) | (simp; omega) | (have q := qno ii (by omega); unfold rwdP at q; (try simp only [h1] at q); (try simp [and2] at q); (try simp); first | exact q | omega | (simp_all; done)) | exact (dWord_at (D := dOf n g) hk qk2 qk3).symm | exact (dWord_no (D := dOf n g) qno).symm
    ·
      first | (apply Nat.ble_eq_true_of_le; omega) | (simp [Nat.blt_eq]; omega) | (simp; omega) | (have q := qno ii (by omega); unfold rwdP at q; (try simp only [h1] at q); (try simp [and2] at q); (try simp); first | exact q | omega | (simp_all; done)) | exact (dWord_at (D := dOf n g) hk qk2 qk3).symm | exact (dWord_no (D := dOf n g) qno).symm
    ·
      first | (apply Nat.ble_eq_true_of_le; omega) | (simp [Nat.blt_eq]; omega) | (simp; omega) | (have q := qno ii (by omega); unfold rwdP at q; (try simp only [h1] at q); (try simp [and2] at q); (try simp); first | exact q | omega | (simp_all; done)) | exact (dWord_at (D := dOf n g) hk qk2 qk3).symm | exact (dWord_no (D := dOf n g) qno).symm
    ·
      first | (apply Nat.ble_eq_true_of_le; omega) | (simp [Nat.blt_eq]; omega) | (simp; omega) | (have q := qno ii (by omega); unfold rwdP at q; (try simp only [h1] at q); (try simp [and2] at q); (try simp); first | exact q | omega | (simp_all; done)) | exact (dWord_at (D := dOf n g) hk qk2 qk3).symm | exact (dWord_no (D := dOf n g) qno).symm
  | false =>
    have g1 := of_decide_eq_false h1
    try simp only [Int.ofNat_eq_natCast, ge_iff_le, gt_iff_lt, Int.not_lt, Int.not_le] at g1
    refine round_exit (s0 := rwdU kd ad fd n l g st c0 k0 a0 f0 w0 i0 d0) (rwdn_3 ..) (by simp) (ob_cons rfl (ob_cons rfl (ob_cons rfl (ob_cons rfl (ob_cons rfl (ob_cons rfl (ob_cons rfl (ob_cons rfl (ob_cons rfl (ob_cons rfl (ob_cons rfl (ob_cons rfl (ob_cons rfl (ob_cons rfl (ob_cons rfl (ob_cons (Nat.le_refl _) (ob_cons (.inl ⟨rfl, rfl⟩) (ob_cons h1 ob_nil))))))))))))))))))
theorem rwd_loc (kd ad fd : Int) (n l : Nat) (g : Nat → Nat → AV) (st c0 k0 a0 f0 w0 i0 : Int) (d0 : Bool) : LocOk Tryd.prog 141 [.ptr 1 0 0, .agg [.sym .u8 kd, .sym .i64 ad, .sym .i64 fd]] (rwdH kd ad fd n l g st c0 k0 a0 f0 w0 i0 d0) (rwdR kd ad fd n l g st c0 k0 a0 f0 w0 i0 d0) := by
  refine loc_of_call EMX_ok (fun hp => ?_)
  have hl : n ≤ l := hp _ (List.mem_cons_self ..)
  have hm : n ≤ 1000000 := hp _ (List.mem_cons_of_mem _ (List.mem_cons_self ..))
  clear hp
  rcases first_true (rwdP kd ad fd n l g st c0 k0 a0 f0 w0 i0 d0) (n) with qno | ⟨k, hk, qk2, qk3⟩
  · have hln := rwd_lpn kd ad fd n l g st c0 k0 a0 f0 w0 i0 d0 hl hm qno
    refine ⟨2000, _, _, _, rwdcn_1 .., (ob_cons ?_ (ob_cons rfl (ob_cons rfl (ob_cons rfl (ob_cons rfl (ob_cons rfl (ob_cons rfl (ob_cons rfl (ob_cons rfl (ob_cons rfl (ob_cons rfl (ob_cons rfl (ob_cons rfl (ob_cons (Nat.le_refl _) (ob_cons (.inl ⟨rfl, rfl⟩) (ob_cons ?_ ob_nil))))))))))))))))⟩
    ·
      first | rfl | exact hln | (simp only [srch_no qno, srchB_no qno]; done) | (rw [srch_no qno]; done) | exact (dWord_at (D := dOf n g) hk qk2 qk3).symm | exact (dWord_no (D := dOf n g) qno).symm
    ·
      first | trivial | exact hln | (simp only [srch_no qno, srchB_no qno]; done) | (rw [srch_no qno]; done) | exact (dWord_at (D := dOf n g) hk qk2 qk3).symm | exact (dWord_no (D := dOf n g) qno).symm
  · have hlf := rwd_lpf kd ad fd n l g st c0 k0 a0 f0 w0 i0 d0 hl hm k hk qk2 qk3
    refine ⟨2000, _, _, _, rwdcf_1 kd ad fd n l g st c0 k0 a0 f0 w0 i0 d0 k, (ob_cons ?_ (ob_cons rfl (ob_cons rfl (ob_cons rfl (ob_cons rfl (ob_cons rfl (ob_cons rfl (ob_cons rfl (ob_cons rfl (ob_cons rfl (ob_cons rfl (ob_cons rfl (ob_cons rfl (ob_cons (Nat.le_refl _) (ob_cons (.inl ⟨rfl, rfl⟩) (ob_cons ?_ ob_nil))))))))))))))))⟩
    ·
      first | rfl | exact hlf | (simp only [srch_at hk qk2 qk3, srchB_at hk qk2 qk3]; done) | (rw [srch_at hk qk2 qk3]; done) | exact (dWord_at (D := dOf n g) hk qk2 qk3).symm | exact (dWord_no (D := dOf n g) qno).symm
    ·
      first | trivial | exact hlf | (simp only [srch_at hk qk2 qk3, srchB_at hk qk2 qk3]; done) | (rw [srch_at hk qk2 qk3]; done) | exact (dWord_at (D := dOf n g) hk qk2 qk3).symm | exact (dWord_no (D := dOf n g) qno).symm
noncomputable def rwdSpec : LSpec := fun la lh => match la, lh with
  | [.ptr z1 z2 z3, .agg [.sym .u8 kd, .sym .i64 ad, .sym .i64 fd]], [(z4, .cells z5 [.ss z6 z7 z8 n none, .sym .i64 st, .sym .u8 c0, .sym .u8 k0, .sym .i64 a0, .sym .i64 f0, .sym .u64 w0, .sym .u64 i0, .symb d0]), (z9, .arr z10 z11 false l g)] =>
    match Nat.beq z1 1 && (Nat.beq z2 0 && (Nat.beq z3 0 && (Nat.beq z4 1 && (Nat.beq z5 9 && (Nat.beq z6 4 && (Nat.beq z7 2 && (Nat.beq z8 0 && (Nat.beq z9 2 && (Nat.beq z10 4 && (shBeq z11 wSh)))))))))) with
    | true => some (rwdR kd ad fd n l g st c0 k0 a0 f0 w0 i0 d0)
    | false => none
  | _, _ => none
theorem rwdSpec_ok (la : List AV) (lh : List (Nat × AO)) (R : LR) (h : rwdSpec la lh = some R) : LocOk Tryd.prog 141 la lh R := by
  unfold rwdSpec at h
  split at h
  · rename_i z1 z2 z3 kd ad fd z4 z5 z6 z7 z8 n st c0 k0 a0 f0 w0 i0 d0 z9 z10 z11 l g
    split at h
    · rename_i hb
      simp only [Bool.and_eq_true] at hb
      obtain ⟨e1, e2, e3, e4, e5, e6, e7, e8, e9, e10, e11⟩ := hb
      have e1 := Nat.eq_of_beq_eq_true e1; subst e1
      have e2 := Nat.eq_of_beq_eq_true e2; subst e2
      have e3 := Nat.eq_of_beq_eq_true e3; subst e3
      have e4 := Nat.eq_of_beq_eq_true e4; subst e4
      have e5 := Nat.eq_of_beq_eq_true e5; subst e5
      have e6 := Nat.eq_of_beq_eq_true e6; subst e6
      have e7 := Nat.eq_of_beq_eq_true e7; subst e7
      have e8 := Nat.eq_of_beq_eq_true e8; subst e8
      have e9 := Nat.eq_of_beq_eq_true e9; subst e9
      have e10 := Nat.eq_of_beq_eq_true e10; subst e10
      have e11 := shBeq_eq e11; subst e11
      cases h
      exact rwd_loc kd ad fd n l g st c0 k0 a0 f0 w0 i0 d0
    · cases h
  · cases h

theorem rptf_1 (kd ad fd v : Int) (n l : Nat) (g : Nat → Nat → AV) (st c0 k0 a0 f0 w0 i0 : Int) (d0 : Bool) (ii : Nat) : roundB EMX 2000 rptL ((rptU kd ad fd v n l g st c0 k0 a0 f0 w0 i0 d0).hp) [] (rptT kd ad fd v n l g st c0 k0 a0 f0 w0 i0 d0 ii) [Hint.b true, Hint.node [], Hint.b true] (rptQ kd ad fd v n l g st c0 k0 a0 f0 w0 i0 d0 ii) =
 some (Ex.ret, [kd = kd,
 ad = ad,
 fd = fd,
 (0 : Nat) = 0,
 n = n,
 (none : Option Nat) = none,
 st = st,
 c0 = c0,
 k0 = k0,
 a0 = a0,
 f0 = f0,
 w0 = w0,
 i0 = i0,
 d0 = d0,
 false = false,
 n ≤ l,
 wdF (dSet (dOf n g) ii v).W = upd g (0 + ii) 3 (AV.sym IntKind.u64 v).cells ∧ plainSh wSh = true ∨ ∀ (i : Nat), i < n → rowOb wSh 0 (upd g (0 + ii) 3 (AV.sym IntKind.u64 v).cells i) (wdF (dSet (dOf n g) ii v).W i),
 (0 + ii).blt l = true,
 (ii.blt n && decide (0 ≤ Int.ofNat ii)) = true,
 (and2 (avInt (g (0 + ii) 0) == kd) (and2 (avInt (g (0 + ii) 1) == ad) (and2 (avInt (g (0 + ii) 2) == fd) true)) == true) = true,
 (0 + ii).blt l = true,
 (ii.blt n && decide (0 ≤ Int.ofNat ii)) = true,
 decide (Int.ofNat ii < Int.ofNat n) = true]) := by kernel_rfl
theorem rptf_2 (kd ad fd v : Int) (n l : Nat) (g : Nat → Nat → AV) (st c0 k0 a0 f0 w0 i0 : Int) (d0 : Bool) (ii : Nat) : roundB EMX 2000 rptL ((rptU kd ad fd v n l g st c0 k0 a0 f0 w0 i0 d0).hp) [] (rptT kd ad fd v n l g st c0 k0 a0 f0 w0 i0 d0 ii) [Hint.b true, Hint.node [], Hint.b false] (rptT kd ad fd v n l g st c0 k0 a0 f0 w0 i0 d0 (ii + 1)) =
 some (Ex.norm, [(0 : Nat) = 0,
 (0 : Nat) = 0,
 v = v,
 (0 : Nat) = 0,
 (0 : Nat) = 0,
 IntKind.i64.wrap (Int.ofNat ii + 1) = Int.ofNat (ii + 1),
 kd = kd,
 ad = ad,
 fd = fd,
 (0 : Nat) = 0,
 n = n,
 (none : Option Nat) = none,
 st = st,
 c0 = c0,
 k0 = k0,
 a0 = a0,
 f0 = f0,
 w0 = w0,
 i0 = i0,
 d0 = d0,
 false = false,
 l ≤ l,
 g = g ∧ plainSh wSh = true ∨ ∀ (i : Nat), i < l → rowOb wSh 0 (g i) (g i),
 (and2 (avInt (g (0 + ii) 0) == kd) (and2 (avInt (g (0 + ii) 1) == ad) (and2 (avInt (g (0 + ii) 2) == fd) true)) == true) = false,
 (0 + ii).blt l = true,
 (ii.blt n && decide (0 ≤ Int.ofNat ii)) = true,
 decide (Int.ofNat ii < Int.ofNat n) = true]) := by kernel_rfl
theorem rptn_2 (kd ad fd v : Int) (n l : Nat) (g : Nat → Nat → AV) (st c0 k0 a0 f0 w0 i0 : Int) (d0 : Bool) (ii : Nat) : roundB EMX 2000 rptL ((rptU kd ad fd v n l g st c0 k0 a0 f0 w0 i0 d0).hp) [] (rptT kd ad fd v n l g st c0 k0 a0 f0 w0 i0 d0 ii) [Hint.b true, Hint.node [], Hint.b false] (rptT kd ad fd v n l g st c0 k0 a0 f0 w0 i0 d0 (ii + 1)) =
 some (Ex.norm, [(0 : Nat) = 0,
 (0 : Nat) = 0,
 v = v,
 (0 : Nat) = 0,
 (0 : Nat) = 0,
 IntKind.i64.wrap (Int.ofNat ii + 1) = Int.ofNat (ii + 1),
 kd = kd,
 ad = ad,
 fd = fd,
 (0 : Nat) = 0,
 n = n,
 (none : Option Nat) = none,
 st = st,
 c0 = c0,
 k0 = k0,
 a0 = a0,
 f0 = f0,
 w0 = w0,
 i0 = i0,
 d0 = d0,
 false = false,
 l ≤ l,
 g = g ∧ plainSh wSh = true ∨ ∀ (i : Nat), i < l → rowOb wSh 0 (g i) (g i),
 (and2 (avInt (g (0 + ii) 0) == kd) (and2 (avInt (g (0 + ii) 1) == ad) (and2 (avInt (g (0 + ii) 2) == fd) true)) == true) = false,
 (0 + ii).blt l = true,
 (ii.blt n && decide (0 ≤ Int.ofNat ii)) = true,
 decide (Int.ofNat ii < Int.ofNat n) = true]) := by kernel_rfl
theorem rptn_3 (kd ad fd v : Int) (n l : Nat) (g : Nat → Nat → AV) (st c0 k0 a0 f0 w0 i0 : Int) (d0 : Bool) (ii : Nat) : roundB EMX 2000 rptL ((rptU kd ad fd v n l g st c0 k0 a0 f0 w0 i0 d0).hp) [] (rptT kd ad fd v n l g st c0 k0 a0 f0 w0 i0 d0 ii) [Hint.b false] (rptS kd ad fd v n l g st c0 k0 a0 f0 w0 i0 d0) =
 some (Ex.exit 0, [(0 : Nat) = 0,
 (0 : Nat) = 0,
 v = v,
 (0 : Nat) = 0,
 (0 : Nat) = 0,
 kd = kd,
 ad = ad,
 fd = fd,
 (0 : Nat) = 0,
 n = n,
 (none : Option Nat) = none,
 st = st,
 c0 = c0,
 k0 = k0,
 a0 = a0,
 f0 = f0,
 w0 = w0,
 i0 = i0,
 d0 = d0,
 false = false,
 l ≤ l,
 g = g ∧ plainSh wSh = true ∨ ∀ (i : Nat), i < l → rowOb wSh 0 (g i) (g i),
 decide (Int.ofNat ii < Int.ofNat n) = false]) := by kernel_rfl
theorem rpti_1 (kd ad fd v : Int) (n l : Nat) (g : Nat → Nat → AV) (st c0 k0 a0 f0 w0 i0 : Int) (d0 : Bool) : castSt ((rptU kd ad fd v n l g st c0 k0 a0 f0 w0 i0 d0).hp) [] (rptU kd ad fd v n l g st c0 k0 a0 f0 w0 i0 d0) (rptT kd ad fd v n l g st c0 k0 a0 f0 w0 i0 d0 0) =
 some ([(0 : Nat) = 0,
 (0 : Nat) = 0,
 v = v,
 (0 : Nat) = 0,
 (0 : Nat) = 0,
 (0 : Int) = 0,
 kd = kd,
 ad = ad,
 fd = fd,
 (0 : Nat) = 0,
 n = n,
 (none : Option Nat) = none,
 st = st,
 c0 = c0,
 k0 = k0,
 a0 = a0,
 f0 = f0,
 w0 = w0,
 i0 = i0,
 d0 = d0,
 false = false,
 l ≤ l,
 g = g ∧ plainSh wSh = true ∨ ∀ (i : Nat), i < l → rowOb wSh 0 (g i) (g i)]) := by kernel_rfl
theorem rptcf_1 (kd ad fd v : Int) (n l : Nat) (g : Nat → Nat → AV) (st c0 k0 a0 f0 w0 i0 : Int) (d0 : Bool) (k : Nat) : callB EMX 2000 142 [AV.ptr 1 0 0, AV.agg [AV.sym IntKind.u8 kd, AV.sym IntKind.i64 ad, AV.sym IntKind.i64 fd], AV.sym IntKind.u64 v] (rptH kd ad fd v n l g st c0 k0 a0 f0 w0 i0 d0) (rptR kd ad fd v n l g st c0 k0 a0 f0 w0 i0 d0) [(3, Src.nm 2)] [Hint.b false, Hint.lp [0, 2, 4, 6] Ex.ret (rptQ kd ad fd v n l g st c0 k0 a0 f0 w0 i0 d0 k).tmps (rptK kd ad fd v n l g st c0 k0 a0 f0 w0 i0 d0 k) 4 [2]] =
 some ([(0 : Nat) = 0,
 n = (dPut (dOf n g) kd ad fd v).n,
 (none : Option Nat) = none,
 st = st,
 c0 = c0,
 k0 = k0,
 a0 = a0,
 f0 = f0,
 w0 = w0,
 i0 = i0,
 d0 = d0,
 false = false,
 (dPut (dOf n g) kd ad fd v).n ≤ n,
 wdF (dPut (dOf n g) kd ad fd v).W = wdF (dSet (dOf n g) k v).W ∧ plainSh wSh = true ∨ ∀ (i : Nat), i < (dPut (dOf n g) kd ad fd v).n → rowOb wSh 0 (wdF (dSet (dOf n g) k v).W i) (wdF (dPut (dOf n g) kd ad fd v).W i),
 rptLF kd ad fd v n l g st c0 k0 a0 f0 w0 i0 d0 k,
 (!mayA kd ad fd) = false,
 0 ≤ kd]) := by kernel_rfl
theorem rptcn_1 (kd ad fd v : Int) (n l : Nat) (g : Nat → Nat → AV) (st c0 k0 a0 f0 w0 i0 : Int) (d0 : Bool) : callB EMX 2000 142 [AV.ptr 1 0 0, AV.agg [AV.sym IntKind.u8 kd, AV.sym IntKind.i64 ad, AV.sym IntKind.i64 fd], AV.sym IntKind.u64 v] (rptH kd ad fd v n l g st c0 k0 a0 f0 w0 i0 d0) (rptR kd ad fd v n l g st c0 k0 a0 f0 w0 i0 d0) [(3, Src.nm 1841282216941579801882419204465524523121861150899223944084351394554075260477629437121839426933321088397373759821752539942684706807060533592497296769019)] [Hint.b false, Hint.lp [0, 2, 4, 6] (Ex.exit 0) (rptS kd ad fd v n l g st c0 k0 a0 f0 w0 i0 d0).tmps (rptE kd ad fd v n l g st c0 k0 a0 f0 w0 i0 d0) 4 []] =
 some ([(0 : Nat) = 0,
 n + 1 = (dPut (dOf n g) kd ad fd v).n,
 (none : Option Nat) = none,
 st = st,
 c0 = c0,
 k0 = k0,
 a0 = a0,
 f0 = f0,
 w0 = w0,
 i0 = i0,
 d0 = d0,
 false = false,
 (dPut (dOf n g) kd ad fd v).n ≤ n + 1,
 (wdF (dPut (dOf n g) kd ad fd v).W = fun i j => if i < n then g (0 + i) j else rowsOf 4 [AV.sym IntKind.u8 kd, AV.sym IntKind.i64 ad, AV.sym IntKind.i64 fd, AV.sym IntKind.u64 v] (i - n) j) ∧ plainSh wSh = true ∨ ∀ (i : Nat), i < (dPut (dOf n g) kd ad fd v).n → rowOb wSh 0 (fun j => if i < n then g (0 + i) j else rowsOf 4 [AV.sym IntKind.u8 kd, AV.sym IntKind.i64 ad, AV.sym IntKind.i64 fd, AV.sym IntKind.u64 v] (i - n) j) (wdF (dPut (dOf n g) kd ad fd v).W i),
 ((n + 1) * 32).ble 70368744177664 = true,
 (0 + n).ble l = true,
 rptLN kd ad fd v n l g st c0 k0 a0 f0 w0 i0 d0,
 (!mayA kd ad fd) = false,
 0 ≤ kd]) := by kernel_rfl
theorem rptco0_1 (kd ad fd v : Int) (n l : Nat) (g : Nat → Nat → AV) (st c0 k0 a0 f0 w0 i0 : Int) (d0 : Bool) : callB EMX 2000 142 [AV.ptr 1 0 0, AV.agg [AV.sym IntKind.u8 kd, AV.sym IntKind.i64 ad, AV.sym IntKind.i64 fd], AV.sym IntKind.u64 v] (rptH kd ad fd v n l g st c0 k0 a0 f0 w0 i0 d0) (rptR kd ad fd v n l g st c0 k0 a0 f0 w0 i0 d0) [(3, Src.nm 2)] [Hint.b true] =
 some ([(0 : Nat) = 0,
 n = (dPut (dOf n g) kd ad fd v).n,
 (none : Option Nat) = none,
 st = st,
 c0 = c0,
 k0 = k0,
 a0 = a0,
 f0 = f0,
 w0 = w0,
 i0 = i0,
 d0 = d0,
 false = false,
 (dPut (dOf n g) kd ad fd v).n ≤ l,
 wdF (dPut (dOf n g) kd ad fd v).W = g ∧ plainSh wSh = true ∨ ∀ (i : Nat), i < (dPut (dOf n g) kd ad fd v).n → rowOb wSh 0 (g i) (wdF (dPut (dOf n g) kd ad fd v).W i),
 (!mayA kd ad fd) = true,
 0 ≤ kd]) := by kernel_rfl
theorem rpt_lpf (kd ad fd v : Int) (n l : Nat) (g : Nat → Nat → AV) (st c0 k0 a0 f0 w0 i0 : Int) (d0 : Bool) (hl : n ≤ l) (hm : n ≤ 1000000) (hk0 : 0 ≤ kd) (k : Nat) (hk : k < n) (qk2 : rptP kd ad fd v n l g st c0 k0 a0 f0 w0 i0 d0 k = true) (qk3 : ∀ i, i < k → rptP kd ad fd v n l g st c0 k0 a0 f0 w0 i0 d0 i = false) : rptLF kd ad fd v n l g st c0 k0 a0 f0 w0 i0 d0 k := by
  refine loop_rule EMX_ok (I := Nat) (fun i => rptT kd ad fd v n l g st c0 k0 a0 f0 w0 i0 d0 i) (fun i => k - i) (fun i => i ≤ k) ?_ (fun ii hi => ?_)
  ·
    refine ⟨0, [], _, Nat.zero_le _, rpti_1 .., (ob_cons rfl (ob_cons rfl (ob_cons rfl (ob_cons rfl (ob_cons rfl (ob_cons rfl (ob_cons rfl (ob_cons rfl (ob_cons rfl (ob_cons rfl (ob_cons rfl (ob_cons rfl (ob_cons rfl (ob_cons rfl (ob_cons rfl (ob_cons rfl (ob_cons rfl (ob_cons rfl (ob_cons rfl (ob_cons rfl (ob_cons rfl (ob_cons (Nat.le_refl _) (ob_cons (.inl ⟨rfl, rfl⟩) ob_nil)))))))))))))))))))))))⟩
  cases h1 : (and2 (avInt (g (0 + ii) 0) == kd) (and2 (avInt (g (0 + ii) 1) == ad) (and2 (avInt (g (0 + ii) 2) == fd) true)) == true) with
  | true =>
    have hpp : rptP kd ad fd v n l g st c0 k0 a0 f0 w0 i0 d0 ii = true := by (unfold rptP; (try rw [h1]); first | done | rfl | (simp; done) | (simp_all; done) | (simp_all [and2]; done))
    have hke : ii = k := by (rcases Nat.lt_or_ge ii k with q | q <;> first | (rw [qk3 ii q] at hpp; cases hpp) | omega)
    subst hke
    refine round_exit (s0 := rptU kd ad fd v n l g st c0 k0 a0 f0 w0 i0 d0) (rptf_1 ..) (by simp) (ob_cons rfl (ob_cons rfl (ob_cons rfl (ob_cons rfl (ob_cons rfl (ob_cons rfl (ob_cons rfl (ob_cons rfl (ob_cons rfl (ob_cons rfl (ob_cons rfl (ob_cons rfl (ob_cons rfl (ob_cons rfl (ob_cons rfl (ob_cons ?_ (ob_cons ?_ (ob_cons ?_ (ob_cons ?_ (ob_cons h1 (ob_cons ?_ (ob_cons ?_ (ob_cons ?_ ob_nil)))))))))))))))))))))))
    ·
      first | exact Nat.le_refl _ | omega | (simp; omega) | exact hnm | (rw [hmay]; rfl) | (simp [capOr]; done) | exact hk0 | (refine .inr (fun i hi => row_wd ?_); by_cases q : i = ii <;> simp [dSet, dOf, upd, wdOf, nth, AV.cells, avI_s, avI_i, ofVal, cellOf, q]; done) | (have e := dPut_at (v := v) (D := dOf n g) hmay hk qk2 qk3; rw [e]; first | rfl | exact Nat.le_refl _ | exact hl | exact .inr (fun i hi => row_wd rfl) | exact .inl ⟨rfl, rfl⟩) | (have e := dPut_no (v := v) (D := dOf n g) hmay qno; rw [e]; first | rfl | exact Nat.le_refl _ | (exact .inr (dAdd_rows rfl rfl))) | omega
    ·
      first | exact .inl ⟨rfl, rfl⟩ | (simp; omega) | exact hnm | (rw [hmay]; rfl) | (simp [capOr]; done) | exact hk0 | (refine .inr (fun i hi => row_wd ?_); by_cases q : i = ii <;> simp [dSet, dOf, upd, wdOf, nth, AV.cells, avI_s, avI_i, ofVal, cellOf, q]; done) | (have e := dPut_at (v := v) (D := dOf n g) hmay hk qk2 qk3; rw [e]; first | rfl | exact Nat.le_refl _ | exact hl | exact .inr (fun i hi => row_wd rfl) | exact .inl ⟨rfl, rfl⟩) | (have e := dPut_no (v := v) (D := dOf n g) hmay qno; rw [e]; first | rfl | exact Nat.le_refl _ | (exact .inr (dAdd_rows rfl rfl))) | omega
    ·
      first | (apply Nat.ble_eq_true_of_le; omega) | (simp [Nat.blt_eq]; omega) | (simp; omega) | exact hnm | (rw [hmay]; rfl) | (simp [capOr]; done) | exact hk0 | (refine .inr (fun i hi => row_wd ?_); by_cases q : i = ii <;> simp [dSet, dOf, upd, wdOf, nth, AV.cells, avI_s, avI_i, ofVal, cellOf, q]; done) | (have e := dPut_at (v := v) (D := dOf n g) hmay hk qk2 qk3; rw [e]; first | rfl | exact Nat.le_refl _ | exact hl | exact .inr (fun i hi => row_wd rfl) | exact .inl ⟨rfl, rfl⟩) | (have e := dPut_no (v := v) (D := dOf n g) hmay qno; rw [e]; first | rfl | exact Nat.le_refl _ | (exact .inr (dAdd_rows rfl rfl))) | omega
    ·
      first | (apply Nat.ble_eq_true_of_le; omega) | (simp [Nat.blt_eq]; omega) | (simp; omega) | exact hnm | (rw [hmay]; rfl) | (simp [capOr]; done) | exact hk0 | (refine .inr (fun i hi => row_wd ?_); by_cases q : i = ii <;> simp [dSet, dOf, upd, wdOf, nth, AV.cells, avI_s, avI_i, ofVal, cellOf, q]; done) | (have e := dPut_at (v := v) (D := dOf n g) hmay hk qk2 qk3; rw [e]; first | rfl | exact Nat.le_refl _ | exact hl | exact .inr (fun i hi => row_wd rfl) | exact .inl ⟨rfl, rfl⟩) | (have e := dPut_no (v := v) (D := dOf n g) hmay qno; rw [e]; first | rfl | exact Nat.le_refl _ | (exact .inr (dAdd_rows rfl rfl))) | omega
    ·
      first | (apply Nat.ble_eq_true_of_le; omega) | (simp [Nat.blt_eq]; omega) | (simp; omega) | exact hnm | (rw [hmay]; rfl) | (simp [capOr]; done) | exact hk0 | (refine .inr (fun i hi => row_wd ?_); by_cases q : i = ii <;> simp [dSet, dOf, upd, wdOf, nth, AV.cells, avI_s, avI_i, ofVal, cellOf, q]; done) | (have e := dPut_at (v := v) (D := dOf n g) hmay hk qk2 qk3; rw [e]; first | rfl | exact Nat.le_refl _ | exact hl | exact .inr (fun i hi => row_wd rfl) | exact .inl ⟨rfl, rfl⟩) | (have e := dPut_no (v := v) (D := dOf n g) hmay qno; rw [e]; first | rfl | exact Nat.le_refl _ | (exact .inr (dAdd_rows rfl rfl))) | omega
    ·
      first | (apply Nat.ble_eq_true_of_le; omega) | (simp [Nat.blt_eq]; omega) | (simp; omega) | exact hnm | (rw [hmay]; rfl) | (simp [capOr]; done) | exact hk0 | (refine .inr (fun i hi => row_wd ?_); by_cases q : i = ii <;> simp [dSet, dOf, upd, wdOf, nth, AV.cells, avI_s, avI_i, ofVal, cellOf, q]; done) | (have e := dPut_at (v := v) (D := dOf n g) hmay hk qk2 qk3; rw [e]; first | rfl | exact Nat.le_refl _ | exact hl | exact .inr (fun i hi => row_wd rfl) | exact .inl ⟨rfl, rfl⟩) | (have e := dPut_no (v := v) (D := dOf n g) hmay qno; rw [e]; first | rfl | exact Nat.le_refl _ | (exact .inr (dAdd_rows rfl rfl))) | omega
    ·
      first | (apply Nat.ble_eq_true_of_le; omega) | (simp [Nat.blt_eq]; omega) | (simp; omega) | exact hnm | (rw [hmay]; rfl) | (simp [capOr]; done) | exact hk0 | (refine .inr (fun i hi => row_wd ?_); by_cases q : i = ii <;> simp [dSet, dOf, upd, wdOf, nth, AV.cells, avI_s, avI_i, ofVal, cellOf, q]; done) | (have e := dPut_at (v := v) (D := dOf n g) hmay hk qk2 qk3; rw [e]; first | rfl | exact Nat.le_refl _ | exact hl | exact .inr (fun i hi => row_wd rfl) | exact .inl ⟨rfl, rfl⟩) | (have e := dPut_no (v := v) (D := dOf n g) hmay qno; rw [e]; first | rfl | exact Nat.le_refl _ | (exact .inr (dAdd_rows rfl rfl))) | omega
  | false =>
    have hpp : rptP kd ad fd v n l g st c0 k0 a0 f0 w0 i0 d0 ii = false := by (unfold rptP; (try rw [h1]); first | done | rfl | (simp; done) | (simp_all; done) | (simp_all [and2]; done))
    have hne : ii ≠ k := fun e => by (subst e; rw [qk2] at hpp; cases hpp)
    refine round_norm (s0 := rptU kd ad fd v n l g st c0 k0 a0 f0 w0 i0 d0) (ii + 1) (rptf_2 ..) (ob_cons rfl (ob_cons rfl (ob_cons rfl (ob_cons rfl (ob_cons rfl (ob_cons ?_ (ob_cons rfl (ob_cons rfl (ob_cons rfl (ob_cons rfl (ob_cons rfl (ob_cons rfl (ob_cons rfl (ob_cons rfl (ob_cons rfl (ob_cons rfl (ob_cons rfl (ob_cons rfl (ob_cons rfl (ob_cons rfl (ob_cons rfl (ob_cons (Nat.le_refl _) (ob_cons (.inl ⟨rfl, rfl⟩) (ob_cons h1 (ob_cons ?_ (ob_cons ?_ (ob_cons ?_ ob_nil))))))))))))))))))))))))))) (by show ii + 1 ≤ k; omega) (by show k - (ii + 1) < k - ii; omega)
    ·
      first | exact wrap_nat64 _ (by simp; omega) (by simp; omega) | (simp; omega) | exact hnm | (rw [hmay]; rfl) | (simp [capOr]; done) | exact hk0 | (refine .inr (fun i hi => row_wd ?_); by_cases q : i = ii <;> simp [dSet, dOf, upd, wdOf, nth, AV.cells, avI_s, avI_i, ofVal, cellOf, q]; done) | (have e := dPut_at (v := v) (D := dOf n g) hmay hk qk2 qk3; rw [e]; first | rfl | exact Nat.le_refl _ | exact hl | exact .inr (fun i hi => row_wd rfl) | exact .inl ⟨rfl, rfl⟩) | (have e := dPut_no (v := v) (D := dOf n g) hmay qno; rw [e]; first | rfl | exact Nat.le_refl _ | (exact .inr (dAdd_rows rfl rfl))) | omega
    ·
      first | (apply Nat.ble_eq_true_of_le; omega) | (simp [Nat.blt_eq]; omega) | (simp; omega) | exact hnm | (rw [hmay]; rfl) | (simp [capOr]; done) | exact hk0 | (refine .inr (fun i hi => row_wd ?_); by_cases q : i = ii <;> simp [dSet, dOf, upd, wdOf, nth, AV.cells, avI_s, avI_i, ofVal, cellOf, q]; done) | (have e := dPut_at (v := v) (D := dOf n g) hmay hk qk2 qk3; rw [e]; first | rfl | exact Nat.le_refl _ | exact hl | exact .inr (fun i hi => row_wd rfl) | exact .inl ⟨rfl, rfl⟩) | (have e := dPut_no (v := v) (D := dOf n g) hmay qno; rw [e]; first | rfl | exact Nat.le_refl _ | (exact .inr (dAdd_rows rfl rfl))) | omega
    ·
      first | (apply Nat.ble_eq_true_of_le; omega) | (simp [Nat.blt_eq]; omega) | (simp; omega) | exact hnm | (rw [hmay]; rfl) | (simp [capOr]; done) | exact hk0 | (refine .inr (fun i hi => row_wd ?_); by_cases q : i = ii <;> simp [dSet, dOf, upd, wdOf, nth, AV.cells, avI_s, avI_i, ofVal, cellOf, q]; done) | (have e := dPut_at (v := v) (D := dOf n g) hmay hk qk2 qk3; rw [e]; first | rfl | exact Nat.le_refl _ | exact hl | exact .inr (fun i hi => row_wd rfl) | exact .inl ⟨rfl, rfl⟩) | (have e := dPut_no (v := v) (D := dOf n g) hmay qno; rw [e]; first | rfl | exact Nat.le_refl _ | (exact .inr (dAdd_rows rfl rfl))) | omega
    ·
      first | (apply Nat.ble_eq_true_of_le; omega) | (simp [Nat.blt_eq]; omega) | (simp; omega) | exact hnm | (rw [hmay]; rfl) | (simp [capOr]; done) | exact hk0 | (refine .inr (fun i hi => row_wd ?_); by_cases q : i = ii <;> simp [dSet, dOf, upd, wdOf, nth, AV.cells, avI_s, avI_i, ofVal, cellOf, q]; done) | (have e := dPut_at (v := v) (D := dOf n g) hmay hk qk2 qk3; rw [e]; first | rfl | exact Nat.le_refl _ | exact hl | exact .inr (fun i hi => row_wd rfl) | exact .inl ⟨rfl, rfl⟩) | (have e := dPut_no (v := v) (D := dOf n g) hmay qno; rw [e]; first | rfl | exact Nat.le_refl _ | (exact .inr (dAdd_rows rfl rfl))) | omega
theorem rpt_lpn (kd ad fd v : Int) (n l : Nat) (g : Nat → Nat → AV) (st c0 k0 a0 f0 w0 i0 : Int) (d0 : Bool) (hl : n ≤ l) (hm : n ≤ 1000000) (hk0 : 0 ≤ kd) (qno : ∀ i, i < n → rptP kd ad fd v n l g st c0 k0 a0 f0 w0 i0 d0 i = false) : rptLN kd ad fd v n l g st c0 k0 a0 f0 w0 i0 d0 := by
  refine loop_rule EMX_ok (I := Nat) (fun i => rptT kd ad fd v n l g st c0 k0 a0 f0 w0 i0 d0 i) (fun i => n - i) (fun i => i ≤ n) ?_ (fun ii hi => ?_)
  ·
    refine ⟨0, [], _, Nat.zero_le _, rpti_1 .., (ob_cons rfl (ob_cons rfl (ob_cons rfl (ob_cons rfl (ob_cons rfl (ob_cons rfl (ob_cons rfl (ob_cons rfl (ob_cons rfl (ob_cons rfl (ob_cons rfl (ob_cons rfl (ob_cons rfl (ob_cons rfl (ob_cons rfl (ob_cons rfl (ob_cons rfl (ob_cons rfl (ob_cons rfl (ob_cons rfl (ob_cons rfl (ob_cons (Nat.le_refl _) (ob_cons (.inl ⟨rfl, rfl⟩) ob_nil)))))))))))))))))))))))⟩
  cases h1 : (decide (Int.ofNat ii < Int.ofNat n)) with
  | true =>
    have g1 := of_decide_eq_true h1
    try simp only [Int.ofNat_eq_natCast, ge_iff_le, gt_iff_lt, Int.not_lt, Int.not_le] at g1
    refine round_norm (s0 := rptU kd ad fd v n l g st c0 k0 a0 f0 w0 i0 d0) (ii + 1) (rptn_2 ..) (ob_cons rfl (ob_cons rfl (ob_cons rfl (ob_cons rfl (ob_cons rfl (ob_cons ?_ (ob_cons rfl (ob_cons rfl (ob_cons rfl (ob_cons rfl (ob_cons rfl (ob_cons rfl (ob_cons rfl (ob_cons rfl (ob_cons rfl (ob_cons rfl (ob_cons rfl (ob_cons rfl (ob_cons rfl (ob_cons rfl (ob_cons rfl (ob_cons (Nat.le_refl _) (ob_cons (.inl ⟨rfl, rfl⟩) (ob_cons ?_ (ob_cons ?_ (ob_cons ?_ (ob_cons h1 ob_nil))))))))))))))))))))))))))) (by show ii + 1 ≤ n; omega) (by show n - (ii + 1) < n - ii; omega)
    ·
      first | exact wrap_nat64 _ (by simp; omega) (by simp; omega) | (simp; omega) | (have q := qno ii (by omega); unfold rptP at q; (try simp only [h1] at q); (try simp [and2] at q); (try simp); first | exact q | omega | (simp_all; done)) | exact hnm | (rw [hmay]; rfl) | (simp [capOr]; done) | exact hk0 | (refine .inr (fun i hi => row_wd ?_); by_cases q : i = ii <;> simp [dSet, dOf, upd, wdOf, nth, AV.cells, avI_s, avI_i, ofVal, cellOf, q]; done) | (have e := dPut_at (v := v) (D := dOf n g) hmay hk qk2 qk3; rw [e]; first | rfl | exact Nat.le_refl _ | exact hl | exact .inr (fun i hi => row_wd rfl) | exact .inl ⟨rfl, rfl⟩) | (have e := dPut_no (v := v) (D := dOf n g) hmay qno; rw [e]; first | rfl | exact Nat.le_refl _ | (exact .inr (dAdd_rows rfl rfl))) | omega
    ·
      first | (apply Nat.ble_eq_true_of_le; omega) | (simp [Nat.blt_eq]; omega) | (simp; omega) | (have q := qno ii (by omega); unfold rptP at q; (try simp only [h1] at q); (try simp [and2] at q); (try simp); first | exact q | omega | (simp_all; done)) | exact hnm | (rw [hmay]; rfl) | (simp [capOr]; done) | exact hk0 | (refine .inr (fun i hi => row_wd ?_); by_cases q : i = ii <;> simp [dSet, dOf, upd, wdOf, nth, AV.cells, avI_s, avI_i, ofVal, cellOf, q]; done) | (have e := dPut_at (v := v) (D := dOf n g) hmay hk qk2 qk3; rw [e]; first | rfl | exact Nat.le_refl _ | exact hl | exact .inr (fun i hi => row_wd rfl) | exact .inl ⟨rfl, rfl⟩) | (have e := dPut_no (v := v) (D := dOf n g) hmay qno; rw [e]; first | rfl | exact Nat.le_refl _ | (exact .inr (dAdd_rows rfl rfl))) | omega
    ·
      first | (apply Nat.ble_eq_true_of_le; omega) | (simp [Nat.blt_eq]; omega) | (simp; omega) | (have q := qno ii (by omega); unfold rptP at q; (try simp only [h1] at q); (try simp [and2] at q); (try simp); first | exact q | omega | (simp_all; done)) | exact hnm | (rw [hmay]; rfl) | (simp [capOr]; done) | exact hk0 | (refine .inr (fun i hi => row_wd ?_); by_cases q : i = ii <;> simp [dSet, dOf, upd, wdOf, nth, AV.cells, avI_s, avI_i, ofVal, cellOf, q]; done) | (have e := dPut_at (v := v) (D := dOf n g) hmay hk qk2 qk3; rw [e]; first | rfl | exact Nat.le_refl _ | exact hl | exact .inr (fun i hi => row_wd rfl) | exact .inl ⟨rfl, rfl⟩) | (have e := dPut_no (v := v) (D := dOf n g) hmay qno; rw [e]; first | rfl | exact Nat.le_refl _ | (exact .inr (dAdd_rows rfl rfl))) | omega
    ·
      first | (apply Nat.ble_eq_true_of_le; omega) | (simp [Nat.blt_eq]; omega) | (simp; omega) | (have q := qno ii (by omega); unfold rptP at q; (try simp only [h1] at q); (try simp [and2] at q); (try simp); first | exact q | omega | (simp_all; done)) | exact hnm | (rw [hmay]; rfl) | (simp [capOr]; done) | exact hk0 | (refine .inr (fun i hi => row_wd ?_); by_cases q : i = ii <;> simp [dSet, dOf, upd, wdOf, nth, AV.cells, avI_s, avI_i, ofVal, cellOf, q]; done) | (have e := dPut_at (v := v) (D := dOf n g) hmay hk qk2 qk3; rw [e]; first | rfl | exact Nat.le_refl _ | exact hl | exact .inr (fun i hi => row_wd rfl) | exact .inl ⟨rfl, rfl⟩) | (have e := dPut_no (v := v) (D := dOf n g) hmay qno; rw [e]; first | rfl | exact Nat.le_refl _ | (exact .inr (dAdd_rows rfl rfl))) | omega
  | false =>
    have g1 := of_decide_eq_false h1
    try simp only [Int.ofNat_eq_natCast, ge_iff_le, gt_iff_lt, Int.not_lt, Int.not_le] at g1
    refine round_exit (s0 := rptU kd ad fd v n l g st c0 k0 a0 f0 w0 i0 d0) (rptn_3 ..) (by simp) (ob_cons rfl (ob_cons rfl (ob_cons rfl (ob_cons rfl (ob_cons rfl (ob_cons rfl (ob_cons rfl (ob_cons rfl (ob_cons rfl (ob_cons rfl (ob_cons rfl (ob_cons rfl (ob_cons rfl (ob_cons rfl (ob_cons rfl (ob_cons rfl (ob_cons rfl (ob_cons rfl (ob_cons rfl (ob_cons rfl (ob_cons (Nat.le_refl _) (ob_cons (.inl ⟨rfl, rfl⟩) (ob_cons h1 ob_nil)))))))))))))))))))))))
theorem rpt_loc (kd ad fd v : Int) (n l : Nat) (g : Nat → Nat → AV) (st c0 k0 a0 f0 w0 i0 : Int) (d0 : Bool) : LocOk Tryd.prog 142 [.ptr 1 0 0, .agg [.sym .u8 kd, .sym .i64 ad, .sym .i64 fd], .sym .u64 v] (rptH kd ad fd v n l g st c0 k0 a0 f0 w0 i0 d0) (rptR kd ad fd v n l g st c0 k0 a0 f0 w0 i0 d0) := by
  refine loc_of_call EMX_ok (fun hp => ?_)
  have hl : n ≤ l := hp _ (List.mem_cons_self ..)
  have hm : n ≤ 1000000 := hp _ (List.mem_cons_of_mem _ (List.mem_cons_self ..))
  have hk0 : 0 ≤ kd := hp _ (List.mem_cons_of_mem _ (List.mem_cons_of_mem _ (List.mem_cons_self ..)))
  clear hp
  cases hmay : mayA kd ad fd with
  | false =>
    have hnm : (!mayA kd ad fd) = true := by rw [hmay]; rfl
    refine ⟨2000, _, _, _, rptco0_1 .., (ob_cons rfl (ob_cons ?_ (ob_cons rfl (ob_cons rfl (ob_cons rfl (ob_cons rfl (ob_cons rfl (ob_cons rfl (ob_cons rfl (ob_cons rfl (ob_cons rfl (ob_cons rfl (ob_cons ?_ (ob_cons ?_ (ob_cons ?_ (ob_cons ?_ ob_nil))))))))))))))))⟩
    ·
      first | rfl | (have e := dPut_may (v := v) (D := dOf n g) hmay; rw [e]; first | rfl | exact Nat.le_refl _ | exact hl | exact .inr (fun i hi => row_wd rfl) | exact .inl ⟨rfl, rfl⟩) | exact hnm | (rw [hmay]; rfl)
    ·
      first | exact Nat.le_refl _ | omega | (have e := dPut_may (v := v) (D := dOf n g) hmay; rw [e]; first | rfl | exact Nat.le_refl _ | exact hl | exact .inr (fun i hi => row_wd rfl) | exact .inl ⟨rfl, rfl⟩) | exact hnm | (rw [hmay]; rfl)
    ·
      first | exact .inl ⟨rfl, rfl⟩ | (have e := dPut_may (v := v) (D := dOf n g) hmay; rw [e]; first | rfl | exact Nat.le_refl _ | exact hl | exact .inr (fun i hi => row_wd rfl) | exact .inl ⟨rfl, rfl⟩) | exact hnm | (rw [hmay]; rfl)
    ·
      first | (apply Nat.ble_eq_true_of_le; omega) | (simp [Nat.blt_eq]; omega) | (have e := dPut_may (v := v) (D := dOf n g) hmay; rw [e]; first | rfl | exact Nat.le_refl _ | exact hl | exact .inr (fun i hi => row_wd rfl) | exact .inl ⟨rfl, rfl⟩) | exact hnm | (rw [hmay]; rfl)
    ·
      first | exact Nat.le_refl _ | omega | (have e := dPut_may (v := v) (D := dOf n g) hmay; rw [e]; first | rfl | exact Nat.le_refl _ | exact hl | exact .inr (fun i hi => row_wd rfl) | exact .inl ⟨rfl, rfl⟩) | exact hnm | (rw [hmay]; rfl)
  | true =>
  have hnm : (!mayA kd ad fd) = false := by rw [hmay]; rfl
  rcases first_true (rptP kd ad fd v n l g st c0 k0 a0 f0 w0 i0 d0) (n) with qno | ⟨k, hk, qk2, qk3⟩
  · have hln := rpt_lpn kd ad fd v n l g st c0 k0 a0 f0 w0 i0 d0 hl hm hk0 qno
    refine ⟨2000, _, _, _, rptcn_1 .., (ob_cons rfl (ob_cons ?_ (ob_cons rfl (ob_cons rfl (ob_cons rfl (ob_cons rfl (ob_cons rfl (ob_cons rfl (ob_cons rfl (ob_cons rfl (ob_cons rfl (ob_cons rfl (ob_cons ?_ (ob_cons ?_ (ob_cons ?_ (ob_cons ?_ (ob_cons ?_ (ob_cons ?_ (ob_cons ?_ ob_nil)))))))))))))))))))⟩
    ·
      first | rfl | exact hln | (simp only [srch_no qno, srchB_no qno]; done) | (rw [srch_no qno]; done) | exact hnm | (rw [hmay]; rfl) | (simp [capOr]; done) | exact hk0 | (refine .inr (fun i hi => row_wd ?_); by_cases q : i = ii <;> simp [dSet, dOf, upd, wdOf, nth, AV.cells, avI_s, avI_i, ofVal, cellOf, q]; done) | (have e := dPut_at (v := v) (D := dOf n g) hmay hk qk2 qk3; rw [e]; first | rfl | exact Nat.le_refl _ | exact hl | exact .inr (fun i hi => row_wd rfl) | exact .inl ⟨rfl, rfl⟩) | (have e := dPut_no (v := v) (D := dOf n g) hmay qno; rw [e]; first | rfl | exact Nat.le_refl _ | (exact .inr (dAdd_rows rfl rfl))) | omega
    ·
      first | exact Nat.le_refl _ | omega | exact hln | (simp only [srch_no qno, srchB_no qno]; done) | (rw [srch_no qno]; done) | exact hnm | (rw [hmay]; rfl) | (simp [capOr]; done) | exact hk0 | (refine .inr (fun i hi => row_wd ?_); by_cases q : i = ii <;> simp [dSet, dOf, upd, wdOf, nth, AV.cells, avI_s, avI_i, ofVal, cellOf, q]; done) | (have e := dPut_at (v := v) (D := dOf n g) hmay hk qk2 qk3; rw [e]; first | rfl | exact Nat.le_refl _ | exact hl | exact .inr (fun i hi => row_wd rfl) | exact .inl ⟨rfl, rfl⟩) | (have e := dPut_no (v := v) (D := dOf n g) hmay qno; rw [e]; first | rfl | exact Nat.le_refl _ | (exact .inr (dAdd_rows rfl rfl))) | omega
    ·
      first | exact .inl ⟨rfl, rfl⟩ | exact hln | (simp only [srch_no qno, srchB_no qno]; done) | (rw [srch_no qno]; done) | exact hnm | (rw [hmay]; rfl) | (simp [capOr]; done) | exact hk0 | (refine .inr (fun i hi => row_wd ?_); by_cases q : i = ii <;> simp [dSet, dOf, upd, wdOf, nth, AV.cells, avI_s, avI_i, ofVal, cellOf, q]; done) | (have e := dPut_at (v := v) (D := dOf n g) hmay hk qk2 qk3; rw [e]; first | rfl | exact Nat.le_refl _ | exact hl | exact .inr (fun i hi => row_wd rfl) | exact .inl ⟨rfl, rfl⟩) | (have e := dPut_no (v := v) (D := dOf n g) hmay qno; rw [e]; first | rfl | exact Nat.le_refl _ | (exact .inr (dAdd_rows rfl rfl))) | omega
    ·
      first | (apply Nat.ble_eq_true_of_le; omega) | (simp [Nat.blt_eq]; omega) | exact hln | (simp only [srch_no qno, srchB_no qno]; done) | (rw [srch_no qno]; done) | exact hnm | (rw [hmay]; rfl) | (simp [capOr]; done) | exact hk0 | (refine .inr (fun i hi => row_wd ?_); by_cases q : i = ii <;> simp [dSet, dOf, upd, wdOf, nth, AV.cells, avI_s, avI_i, ofVal, cellOf, q]; done) | (have e := dPut_at (v := v) (D := dOf n g) hmay hk qk2 qk3; rw [e]; first | rfl | exact Nat.le_refl _ | exact hl | exact .inr (fun i hi => row_wd rfl) | exact .inl ⟨rfl, rfl⟩) | (have e := dPut_no (v := v) (D := dOf n g) hmay qno; rw [e]; first | rfl | exact Nat.le_refl _ | (exact .inr (dAdd_rows rfl rfl))) | omega
    ·
      first | (apply Nat.ble_eq_true_of_le; omega) | (simp [Nat.blt_eq]; omega) | exact hln | (simp only [srch_no qno, srchB_no qno]; done) | (rw [srch_no qno]; done) | exact hnm | (rw [hmay]; rfl) | (simp [capOr]; done) | exact hk0 | (refine .inr (fun i hi => row_wd ?_); by_cases q : i = ii <;> simp [dSet, dOf, upd, wdOf, nth, AV.cells, avI_s, avI_i, ofVal, cellOf, q]; done) | (have e := dPut_at (v := v) (D := dOf n g) hmay hk qk2 qk3; rw [e]; first | rfl | exact Nat.le_refl _ | exact hl | exact .inr (fun i hi => row_wd rfl) | exact .inl ⟨rfl, rfl⟩) | (have e := dPut_no (v := v) (D := dOf n g) hmay qno; rw [e]; first | rfl | exact Nat.le_refl _ | (exact .inr (dAdd_rows rfl rfl))) | omega
    ·
      first | trivial | exact hln | (simp only [srch_no qno, srchB_no qno]; done) | (rw [srch_no qno]; done) | exact hnm | (rw [hmay]; rfl) | (simp [capOr]; done) | exact hk0 | (refine .inr (fun i hi => row_wd ?_); by_cases q : i = ii <;> simp [dSet, dOf, upd, wdOf, nth, AV.cells, avI_s, avI_i, ofVal, cellOf, q]; done) | (have e := dPut_at (v := v) (D := dOf n g) hmay hk qk2 qk3; rw [e]; first | rfl | exact Nat.le_refl _ | exact hl | exact .inr (fun i hi => row_wd rfl) | exact .inl ⟨rfl, rfl⟩) | (have e := dPut_no (v := v) (D := dOf n g) hmay qno; rw [e]; first | rfl | exact Nat.le_refl _ | (exact .inr (dAdd_rows rfl rfl))) | omega
    ·
      first | (apply Nat.ble_eq_true_of_le; omega) | (simp [Nat.blt_eq]; omega) | exact hln | (simp only [srch_no qno, srchB_no qno]; done) | (rw [srch_no qno]; done) | exact hnm | (rw [hmay]; rfl) | (simp [capOr]; done) | exact hk0 | (refine .inr (fun i hi => row_wd ?_); by_cases q : i = ii <;> simp [dSet, dOf, upd, wdOf, nth, AV.cells, avI_s, avI_i, ofVal, cellOf, q]; done) | (have e := dPut_at (v := v) (D := dOf n g) hmay hk qk2 qk3; rw [e]; first | rfl | exact Nat.le_refl _ | exact hl | exact .inr (fun i hi => row_wd rfl) | exact .inl ⟨rfl, rfl⟩) | (have e := dPut_no (v := v) (D := dOf n g) hmay qno; rw [e]; first | rfl | exact Nat.le_refl _ | (exact .inr (dAdd_rows rfl rfl))) | omega
    ·
      first | exact Nat.le_refl _ | omega | exact hln | (simp only [srch_no qno, srchB_no qno]; done) | (rw [srch_no qno]; done) | exact hnm | (rw [hmay]; rfl) | (simp [capOr]; done) | exact hk0 | (refine .inr (fun i hi => row_wd ?_); by_cases q : i = ii <;> simp [dSet, dOf, upd, wdOf, nth, AV.cells, avI_s, avI_i, ofVal, cellOf, q]; done) | (have e := dPut_at (v := v) (D := dOf n g) hmay hk qk2 qk3; rw [e]; first | rfl | exact Nat.le_refl _ | exact hl | exact .inr (fun i hi => row_wd rfl) | exact .inl ⟨rfl, rfl⟩) | (have e := dPut_no (v := v) (D := dOf n g) hmay qno; rw [e]; first | rfl | exact Nat.le_refl _ | (exact .inr (dAdd_rows rfl rfl))) | omega
  · have hlf := rpt_lpf kd ad fd v n l g st c0 k0 a0 f0 w0 i0 d0 hl hm hk0 k hk qk2 qk3
    refine ⟨2000, _, _, _, rptcf_1 kd ad fd v n l g st c0 k0 a0 f0 w0 i0 d0 k, (ob_cons rfl (ob_cons ?_ (ob_cons rfl (ob_cons rfl (ob_cons rfl (ob_cons rfl (ob_cons rfl (ob_cons rfl (ob_cons rfl (ob_cons rfl (ob_cons rfl (ob_cons rfl (ob_cons ?_ (ob_cons ?_ (ob_cons ?_ (ob_cons ?_ (ob_cons ?_ ob_nil)))))))))))))))))⟩
    ·
      first | rfl | exact hlf | (simp only [srch_at hk qk2 qk3, srchB_at hk qk2 qk3]; done) | (rw [srch_at hk qk2 qk3]; done) | exact hnm | (rw [hmay]; rfl) | (simp [capOr]; done) | exact hk0 | (refine .inr (fun i hi => row_wd ?_); by_cases q : i = ii <;> simp [dSet, dOf, upd, wdOf, nth, AV.cells, avI_s, avI_i, ofVal, cellOf, q]; done) | (have e := dPut_at (v := v) (D := dOf n g) hmay hk qk2 qk3; rw [e]; first | rfl | exact Nat.le_refl _ | exact hl | exact .inr (fun i hi => row_wd rfl) | exact .inl ⟨rfl, rfl⟩) | (have e := dPut_no (v := v) (D := dOf n g) hmay qno; rw [e]; first | rfl | exact Nat.le_refl _ | (exact .inr (dAdd_rows rfl rfl))) | omega
    ·
      first | exact Nat.le_refl _ | omega | exact hlf | (simp only [srch_at hk qk2 qk3, srchB_at hk qk2 qk3]; done) | (rw [srch_at hk qk2 qk3]; done) | exact hnm | (rw [hmay]; rfl) | (simp [capOr]; done) | exact hk0 | (refine .inr (fun i hi => row_wd ?_); by_cases q : i = ii <;> simp [dSet, dOf, upd, wdOf, nth, AV.cells, avI_s, avI_i, ofVal, cellOf, q]; done) | (have e := dPut_at (v := v) (D := dOf n g) hmay hk qk2 qk3; rw [e]; first | rfl | exact Nat.le_refl _ | exact hl | exact .inr (fun i hi => row_wd rfl) | exact .inl ⟨rfl, rfl⟩) | (have e := dPut_no (v := v) (D := dOf n g) hmay qno; rw [e]; first | rfl | exact Nat.le_refl _ | (exact .inr (dAdd_rows rfl rfl))) | omega
    ·
      first | exact .inl ⟨rfl, rfl⟩ | exact hlf | (simp only [srch_at hk qk2 qk3, srchB_at hk qk2 qk3]; done) | (rw [srch_at hk qk2 qk3]; done) | exact hnm | (rw [hmay]; rfl) | (simp [capOr]; done) | exact hk0 | (refine .inr (fun i hi => row_wd ?_); by_cases q : i = ii <;> simp [dSet, dOf, upd, wdOf, nth, AV.cells, avI_s, avI_i, ofVal, cellOf, q]; done) | (have e := dPut_at (v := v) (D := dOf n g) hmay hk qk2 qk3; rw [e]; first | rfl | exact Nat.le_refl _ | exact hl | exact .inr (fun i hi => row_wd rfl) | exact .inl ⟨rfl, rfl⟩) | (have e := dPut_no (v := v) (D := dOf n g) hmay qno; rw [e]; first | rfl | exact Nat.le_refl _ | (exact .inr (dAdd_rows rfl rfl))) | omega
    ·
      first | trivial | exact hlf | (simp only [srch_at hk qk2 qk3, srchB_at hk qk2 qk3]; done) | (rw [srch_at hk qk2 qk3]; done) | exact hnm | (rw [hmay]; rfl) | (simp [capOr]; done) | exact hk0 | (refine .inr (fun i hi => row_wd ?_); by_cases q : i = ii <;> simp [dSet, dOf, upd, wdOf, nth, AV.cells, avI_s, avI_i, ofVal, cellOf, q]; done) | (have e := dPut_at (v := v) (D := dOf n g) hmay hk qk2 qk3; rw [e]; first | rfl | exact Nat.le_refl _ | exact hl | exact .inr (fun i hi => row_wd rfl) | exact .inl ⟨rfl, rfl⟩) | (have e := dPut_no (v := v) (D := dOf n g) hmay qno; rw [e]; first | rfl | exact Nat.le_refl _ | (exact .inr (dAdd_rows rfl rfl))) | omega
    ·
      first | (apply Nat.ble_eq_true_of_le; omega) | (simp [Nat.blt_eq]; omega) | exact hlf | (simp only [srch_at hk qk2 qk3, srchB_at hk qk2 qk3]; done) | (rw [srch_at hk qk2 qk3]; done) | exact hnm | (rw [hmay]; rfl) | (simp [capOr]; done) | exact hk0 | (refine .inr (fun i hi => row_wd ?_); by_cases q : i = ii <;> simp [dSet, dOf, upd, wdOf, nth, AV.cells, avI_s, avI_i, ofVal, cellOf, q]; done) | (have e := dPut_at (v := v) (D := dOf n g) hmay hk qk2 qk3; rw [e]; first | rfl | exact Nat.le_refl _ | exact hl | exact .inr (fun i hi => row_wd rfl) | exact .inl ⟨rfl, rfl⟩) | (have e := dPut_no (v := v) (D := dOf n g) hmay qno; rw [e]; first | rfl | exact Nat.le_refl _ | (exact .inr (dAdd_rows rfl rfl))) | omega
    ·
      first | exact Nat.le_refl _ | omega | exact hlf | (simp only [srch_at hk qk2 qk3, srchB_at hk qk2 qk3]; done) | (rw [srch_at hk qk2 qk3]; done) | exact hnm | (rw [hmay]; rfl) | (simp [capOr]; done) | exact hk0 | (refine .inr (fun i hi => row_wd ?_); by_cases q : i = ii <;> simp [dSet, dOf, upd, wdOf, nth, AV.cells, avI_s, avI_i, ofVal, cellOf, q]; done) | (have e := dPut_at (v := v) (D := dOf n g) hmay hk qk2 qk3; rw [e]; first | rfl | exact Nat.le_refl _ | exact hl | exact .inr (fun i hi => row_wd rfl) | exact .inl ⟨rfl, rfl⟩) | (have e := dPut_no (v := v) (D := dOf n g) hmay qno; rw [e]; first | rfl | exact Nat.le_refl _ | (exact .inr (dAdd_rows rfl rfl))) | omega
noncomputable def rptSpec : LSpec := fun la lh => match la, lh with
  | [.ptr z1 z2 z3, .agg [.sym .u8 kd, .sym .i64 ad, .sym .i64 fd], .sym .u64 v], [(z4, .cells z5 [.ss z6 z7 z8 n none, .sym .i64 st, .sym .u8 c0, .sym .u8 k0, .sym .i64 a0, .sym .i64 f0, .sym .u64 w0, .sym .u64 i0, .symb d0]), (z9, .arr z10 z11 false l g)] =>
    match Nat.beq z1 1 && (Nat.beq z2 0 && (Nat.beq z3 0 && (Nat.beq z4 1 && (Nat.beq z5 9 && (Nat.beq z6 4 && (Nat.beq z7 2 && (Nat.beq z8 0 && (Nat.beq z9 2 && (Nat.beq z10 4 && (shBeq z11 wSh)))))))))) with
    | true => some (rptR kd ad fd v n l g st c0 k0 a0 f0 w0 i0 d0)
    | false => none
  | _, _ => none
theorem rptSpec_ok (la : List AV) (lh : List (Nat × AO)) (R : LR) (h : rptSpec la lh = some R) : LocOk Tryd.prog 142 la lh R := by
  unfold rptSpec at h
  split at h
  · rename_i z1 z2 z3 kd ad fd v z4 z5 z6 z7 z8 n st c0 k0 a0 f0 w0 i0 d0 z9 z10 z11 l g
    split at h
    · rename_i hb
      simp only [Bool.and_eq_true] at hb
      obtain ⟨e1, e2, e3, e4, e5, e6, e7, e8, e9, e10, e11⟩ := hb
      have e1 := Nat.eq_of_beq_eq_true e1; subst e1
      have e2 := Nat.eq_of_beq_eq_true e2; subst e2
      have e3 := Nat.eq_of_beq_eq_true e3; subst e3
      have e4 := Nat.eq_of_beq_eq_true e4; subst e4
      have e5 := Nat.eq_of_beq_eq_true e5; subst e5
      have e6 := Nat.eq_of_beq_eq_true e6; subst e6
      have e7 := Nat.eq_of_beq_eq_true e7; subst e7
      have e8 := Nat.eq_of_beq_eq_true e8; subst e8
      have e9 := Nat.eq_of_beq_eq_true e9; subst e9
      have e10 := Nat.eq_of_beq_eq_true e10; subst e10
      have e11 := shBeq_eq e11; subst e11
      cases h
      exact rpt_loc kd ad fd v n l g st c0 k0 a0 f0 w0 i0 d0
    · cases h
  · cases h

end Go.Proofs.YtmndhjodbnojdaaDoor
