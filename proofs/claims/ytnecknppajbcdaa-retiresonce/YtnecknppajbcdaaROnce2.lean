/-
  RetiresOnce's further loops.
-/
import Derived.Test.YtnecknppajbcdaaROnce2Def
set_option linter.unusedSimpArgs false
set_option linter.unusedVariables false
namespace Go.Proofs.Ytnecknppajbcdaa
open Go.Ev
section
variable (m n : Nat) (f : Nat → Nat → AV) (E : Nat → Ent) (M : List Int → Option Int) (a b : Int)
theorem o3i_1 (ii : Nat) : castSt ((o3U m n f E M a b ii).hp) [] (o3U m n f E M a b ii) (o3T m n f E M a b ii 0) =
 some ([a = a,
 b = b,
 (0 : Nat) = 0,
 (0 : Nat) = 0,
 Int.ofNat n = Int.ofNat n,
 (0 : Nat) = 0,
 n = n,
 some n = some n,
 Int.ofNat ii = Int.ofNat ii,
 (0 : Nat) = 0,
 (0 : Nat) = 0,
 (0 : Int) = 0,
 (E (0 + ii)).slot = (E (0 + ii)).slot,
 (E (0 + ii)).gen = (E (0 + ii)).gen,
 (E (0 + ii)).mark = (E (0 + ii)).mark,
 false = false,
 n ≤ n,
 entF E = entF E ∧ plainSh eSh = true ∨ ∀ (i : Nat), i < n → rowOb eSh 0 (entF E i) (entF E i),
 (0 : Nat) = 0,
 n = n,
 (none : Option Nat) = none,
 false = false,
 n ≤ n,
 entF E = entF E ∧ plainSh eSh = true ∨ ∀ (i : Nat), i < n → rowOb eSh 0 (entF E i) (entF E i),
 ∀ (k : List Int), M k = M k,
 true = true,
 m ≤ m,
 f = f ∧ plainSh eSh = true ∨ ∀ (i : Nat), i < m → rowOb eSh 0 (f i) (f i)]) := by kernel_rfl
theorem o3_2 (ii kk : Nat) : roundB EB 2000 lcO3 ((o3U m n f E M a b ii).hp) [] (o3T m n f E M a b ii kk) [Hint.b true, Hint.node [], Hint.b false] (o3T m n f E M a b ii (kk + 1)) =
 some (Ex.norm, [a = a,
 b = b,
 (0 : Nat) = 0,
 (0 : Nat) = 0,
 Int.ofNat n = Int.ofNat n,
 (0 : Nat) = 0,
 n = n,
 some n = some n,
 Int.ofNat ii = Int.ofNat ii,
 (0 : Nat) = 0,
 (0 : Nat) = 0,
 IntKind.i64.wrap (Int.ofNat kk + 1) = Int.ofNat (kk + 1),
 (E (0 + ii)).slot = (E (0 + ii)).slot,
 (E (0 + ii)).gen = (E (0 + ii)).gen,
 (E (0 + ii)).mark = (E (0 + ii)).mark,
 false = false,
 n ≤ n,
 entF E = entF E ∧ plainSh eSh = true ∨ ∀ (i : Nat), i < n → rowOb eSh 0 (entF E i) (entF E i),
 (0 : Nat) = 0,
 n = n,
 (none : Option Nat) = none,
 false = false,
 n ≤ n,
 entF E = entF E ∧ plainSh eSh = true ∨ ∀ (i : Nat), i < n → rowOb eSh 0 (entF E i) (entF E i),
 ∀ (k : List Int), M k = M k,
 true = true,
 m ≤ m,
 f = f ∧ plainSh eSh = true ∨ ∀ (i : Nat), i < m → rowOb eSh 0 (f i) (f i),
 (and2 ((E (0 + kk)).1 == (E (0 + ii)).slot) (and2 ((E (0 + kk)).2 == (E (0 + ii)).gen) (and2 ((E (0 + kk)).3 == (E (0 + ii)).mark) true)) == true) = false,
 (0 + kk).blt n = true,
 (kk.blt n && decide (0 ≤ Int.ofNat kk)) = true,
 decide (Int.ofNat kk < Int.ofNat ii) = true]) := by kernel_rfl
theorem o3_3 (ii kk : Nat) : roundB EB 2000 lcO3 ((o3U m n f E M a b ii).hp) [] (o3T m n f E M a b ii kk) [Hint.b false] (o3S m n f E M a b ii) =
 some (Ex.exit 4, [a = a,
 b = b,
 (0 : Nat) = 0,
 (0 : Nat) = 0,
 Int.ofNat n = Int.ofNat n,
 (0 : Nat) = 0,
 n = n,
 some n = some n,
 Int.ofNat ii = Int.ofNat ii,
 (0 : Nat) = 0,
 (0 : Nat) = 0,
 (E (0 + ii)).slot = (E (0 + ii)).slot,
 (E (0 + ii)).gen = (E (0 + ii)).gen,
 (E (0 + ii)).mark = (E (0 + ii)).mark,
 false = false,
 n ≤ n,
 entF E = entF E ∧ plainSh eSh = true ∨ ∀ (i : Nat), i < n → rowOb eSh 0 (entF E i) (entF E i),
 (0 : Nat) = 0,
 n = n,
 (none : Option Nat) = none,
 false = false,
 n ≤ n,
 entF E = entF E ∧ plainSh eSh = true ∨ ∀ (i : Nat), i < n → rowOb eSh 0 (entF E i) (entF E i),
 ∀ (k : List Int), M k = M k,
 true = true,
 m ≤ m,
 f = f ∧ plainSh eSh = true ∨ ∀ (i : Nat), i < m → rowOb eSh 0 (f i) (f i),
 decide (Int.ofNat kk < Int.ofNat ii) = false]) := by kernel_rfl
theorem o3_lp (hu : Uniq n E) (hn : n ≤ 1000000) (ii : Nat) (hi : ii < n) : o3Lp m n f E M a b ii := by
  refine loop_rule EB_ok (I := Nat) (fun k => o3T m n f E M a b ii k) (fun k => ii - k) (fun k => k ≤ ii) ?_ (fun kk hk => ?_)
  ·
    refine ⟨0, [], _, Nat.zero_le _, o3i_1 .., (ob_cons rfl (ob_cons rfl (ob_cons rfl (ob_cons rfl (ob_cons rfl (ob_cons rfl (ob_cons rfl (ob_cons rfl (ob_cons rfl (ob_cons rfl (ob_cons rfl (ob_cons rfl (ob_cons rfl (ob_cons rfl (ob_cons rfl (ob_cons rfl (ob_cons (Nat.le_refl _) (ob_cons (.inl ⟨rfl, rfl⟩) (ob_cons rfl (ob_cons rfl (ob_cons rfl (ob_cons rfl (ob_cons (Nat.le_refl _) (ob_cons (.inl ⟨rfl, rfl⟩) (ob_cons (fun _ => rfl) (ob_cons rfl (ob_cons (Nat.le_refl _) (ob_cons (.inl ⟨rfl, rfl⟩) ob_nil))))))))))))))))))))))))))))⟩
  cases h1 : (decide (Int.ofNat kk < Int.ofNat ii)) with
  | true =>
    have g1 := of_decide_eq_true h1
    try simp only [Int.ofNat_eq_natCast, ge_iff_le, gt_iff_lt, Int.not_lt, Int.not_le] at g1
    refine round_norm (s0 := o3U m n f E M a b ii) (kk + 1) (o3_2 ..) (ob_cons rfl (ob_cons rfl (ob_cons rfl (ob_cons rfl (ob_cons rfl (ob_cons rfl (ob_cons rfl (ob_cons rfl (ob_cons rfl (ob_cons rfl (ob_cons rfl (ob_cons ?_ (ob_cons rfl (ob_cons rfl (ob_cons rfl (ob_cons rfl (ob_cons (Nat.le_refl _) (ob_cons (.inl ⟨rfl, rfl⟩) (ob_cons rfl (ob_cons rfl (ob_cons rfl (ob_cons rfl (ob_cons (Nat.le_refl _) (ob_cons (.inl ⟨rfl, rfl⟩) (ob_cons (fun _ => rfl) (ob_cons rfl (ob_cons (Nat.le_refl _) (ob_cons (.inl ⟨rfl, rfl⟩) (ob_cons ?_ (ob_cons ?_ (ob_cons ?_ (ob_cons h1 ob_nil)))))))))))))))))))))))))))))))) (by show kk + 1 ≤ ii; omega) (by show ii - (kk + 1) < ii - kk; omega)
    · -- IntKind.i64.wrap (Int.ofNat kk + 1) = Int.ofNat (kk + 1)
      first | exact wrap_nat64 _ (by simp; omega) (by simp; omega) | exact ref_ne hu g1 hi
    · -- (and2 ((E (0 + kk)).1 == (E (0 + ii)).slot)       (and2 ((E (0 + kk)).2 == (E (0 + ii)).gen) (and2 ((E (0 + kk)).3 == (E (0 + ii)).mark) true)) ==     true) =   false
      first | (apply Nat.ble_eq_true_of_le; omega) | (simp [Nat.blt_eq]; omega) | exact ref_ne hu g1 hi
    · -- (0 + kk).blt n = true
      first | (apply Nat.ble_eq_true_of_le; omega) | (simp [Nat.blt_eq]; omega) | exact ref_ne hu g1 hi
    · -- (kk.blt n && decide (0 ≤ Int.ofNat kk)) = true
      first | (apply Nat.ble_eq_true_of_le; omega) | (simp [Nat.blt_eq]; omega) | exact ref_ne hu g1 hi
  | false =>
    have g1 := of_decide_eq_false h1
    try simp only [Int.ofNat_eq_natCast, ge_iff_le, gt_iff_lt, Int.not_lt, Int.not_le] at g1
    refine round_exit (s0 := o3U m n f E M a b ii) (o3_3 ..) (by simp) (ob_cons rfl (ob_cons rfl (ob_cons rfl (ob_cons rfl (ob_cons rfl (ob_cons rfl (ob_cons rfl (ob_cons rfl (ob_cons rfl (ob_cons rfl (ob_cons rfl (ob_cons rfl (ob_cons rfl (ob_cons rfl (ob_cons rfl (ob_cons (Nat.le_refl _) (ob_cons (.inl ⟨rfl, rfl⟩) (ob_cons rfl (ob_cons rfl (ob_cons rfl (ob_cons rfl (ob_cons (Nat.le_refl _) (ob_cons (.inl ⟨rfl, rfl⟩) (ob_cons (fun _ => rfl) (ob_cons rfl (ob_cons (Nat.le_refl _) (ob_cons (.inl ⟨rfl, rfl⟩) (ob_cons h1 ob_nil))))))))))))))))))))))))))))
theorem o4i_1 : castSt ((o4U m n f E M a b).hp) [] (o4U m n f E M a b) (o4T m n f E M a b 0) =
 some ([a = a,
 b = b,
 (0 : Nat) = 0,
 (0 : Nat) = 0,
 Int.ofNat n = Int.ofNat n,
 (0 : Nat) = 0,
 n = n,
 some n = some n,
 (0 : Int) = 0,
 (0 : Int) = 0,
 false = false,
 n ≤ n,
 entF E = entF E ∧ plainSh eSh = true ∨ ∀ (i : Nat), i < n → rowOb eSh 0 (entF E i) (entF E i),
 (0 : Nat) = 0,
 n = n,
 (none : Option Nat) = none,
 false = false,
 n ≤ n,
 entF E = entF E ∧ plainSh eSh = true ∨ ∀ (i : Nat), i < n → rowOb eSh 0 (entF E i) (entF E i),
 ∀ (k : List Int), M k = M k,
 true = true,
 m ≤ m,
 f = f ∧ plainSh eSh = true ∨ ∀ (i : Nat), i < m → rowOb eSh 0 (f i) (f i)]) := by kernel_rfl
theorem o4_1 (ii : Nat) : roundB EB 2000 lcO4 ((o4U m n f E M a b).hp) [] (o4T m n f E M a b ii) [Hint.b true, Hint.b true] (o4T m n f E M a b (ii + 1)) =
 some (Ex.norm, [a = a,
 b = b,
 (0 : Nat) = 0,
 (0 : Nat) = 0,
 Int.ofNat n = Int.ofNat n,
 (0 : Nat) = 0,
 n = n,
 some n = some n,
 IntKind.i64.wrap (Int.ofNat (cntB (o4P E) ii) + 1) = Int.ofNat (cntB (o4P E) (ii + 1)),
 IntKind.i64.wrap (Int.ofNat ii + 1) = Int.ofNat (ii + 1),
 false = false,
 n ≤ n,
 entF E = entF E ∧ plainSh eSh = true ∨ ∀ (i : Nat), i < n → rowOb eSh 0 (entF E i) (entF E i),
 (0 : Nat) = 0,
 n = n,
 (none : Option Nat) = none,
 false = false,
 n ≤ n,
 entF E = entF E ∧ plainSh eSh = true ∨ ∀ (i : Nat), i < n → rowOb eSh 0 (entF E i) (entF E i),
 ∀ (k : List Int), M k = M k,
 true = true,
 m ≤ m,
 f = f ∧ plainSh eSh = true ∨ ∀ (i : Nat), i < m → rowOb eSh 0 (f i) (f i),
 ((E (0 + ii)).4 != 18446744073709551615) = true,
 (0 + ii).blt n = true,
 (ii.blt n && decide (0 ≤ Int.ofNat ii)) = true,
 decide (Int.ofNat ii < Int.ofNat n) = true]) := by kernel_rfl
theorem o4_2 (ii : Nat) : roundB EB 2000 lcO4 ((o4U m n f E M a b).hp) [] (o4T m n f E M a b ii) [Hint.b true, Hint.b false] (o4T m n f E M a b (ii + 1)) =
 some (Ex.norm, [a = a,
 b = b,
 (0 : Nat) = 0,
 (0 : Nat) = 0,
 Int.ofNat n = Int.ofNat n,
 (0 : Nat) = 0,
 n = n,
 some n = some n,
 Int.ofNat (cntB (o4P E) ii) = Int.ofNat (cntB (o4P E) (ii + 1)),
 IntKind.i64.wrap (Int.ofNat ii + 1) = Int.ofNat (ii + 1),
 false = false,
 n ≤ n,
 entF E = entF E ∧ plainSh eSh = true ∨ ∀ (i : Nat), i < n → rowOb eSh 0 (entF E i) (entF E i),
 (0 : Nat) = 0,
 n = n,
 (none : Option Nat) = none,
 false = false,
 n ≤ n,
 entF E = entF E ∧ plainSh eSh = true ∨ ∀ (i : Nat), i < n → rowOb eSh 0 (entF E i) (entF E i),
 ∀ (k : List Int), M k = M k,
 true = true,
 m ≤ m,
 f = f ∧ plainSh eSh = true ∨ ∀ (i : Nat), i < m → rowOb eSh 0 (f i) (f i),
 ((E (0 + ii)).4 != 18446744073709551615) = false,
 (0 + ii).blt n = true,
 (ii.blt n && decide (0 ≤ Int.ofNat ii)) = true,
 decide (Int.ofNat ii < Int.ofNat n) = true]) := by kernel_rfl
theorem o4_3 (ii : Nat) : roundB EB 2000 lcO4 ((o4U m n f E M a b).hp) [] (o4T m n f E M a b ii) [Hint.b false] (o4S m n f E M a b) =
 some (Ex.exit 6, [a = a,
 b = b,
 (0 : Nat) = 0,
 (0 : Nat) = 0,
 Int.ofNat n = Int.ofNat n,
 (0 : Nat) = 0,
 n = n,
 some n = some n,
 Int.ofNat (cntB (o4P E) ii) = Int.ofNat (cntB (o4P E) n),
 false = false,
 n ≤ n,
 entF E = entF E ∧ plainSh eSh = true ∨ ∀ (i : Nat), i < n → rowOb eSh 0 (entF E i) (entF E i),
 (0 : Nat) = 0,
 n = n,
 (none : Option Nat) = none,
 false = false,
 n ≤ n,
 entF E = entF E ∧ plainSh eSh = true ∨ ∀ (i : Nat), i < n → rowOb eSh 0 (entF E i) (entF E i),
 ∀ (k : List Int), M k = M k,
 true = true,
 m ≤ m,
 f = f ∧ plainSh eSh = true ∨ ∀ (i : Nat), i < m → rowOb eSh 0 (f i) (f i),
 decide (Int.ofNat ii < Int.ofNat n) = false]) := by kernel_rfl
theorem o4_lp (hn : n ≤ 1000000) : LoopHolds Try.prog lcO4 (o4U m n f E M a b) (.exit 6) (o4S m n f E M a b) := by
  refine loop_rule EB_ok (I := Nat) (fun i => o4T m n f E M a b i) (fun i => n - i) (fun i => i ≤ n) ?_ (fun ii hi => ?_)
  ·
    refine ⟨0, [], _, Nat.zero_le _, o4i_1 .., (ob_cons rfl (ob_cons rfl (ob_cons rfl (ob_cons rfl (ob_cons rfl (ob_cons rfl (ob_cons rfl (ob_cons rfl (ob_cons rfl (ob_cons rfl (ob_cons rfl (ob_cons (Nat.le_refl _) (ob_cons (.inl ⟨rfl, rfl⟩) (ob_cons rfl (ob_cons rfl (ob_cons rfl (ob_cons rfl (ob_cons (Nat.le_refl _) (ob_cons (.inl ⟨rfl, rfl⟩) (ob_cons (fun _ => rfl) (ob_cons rfl (ob_cons (Nat.le_refl _) (ob_cons (.inl ⟨rfl, rfl⟩) ob_nil)))))))))))))))))))))))⟩
  have hc := cntB_le (o4P E) ii
  have hi' : ii ≤ 1000000 := by omega
  cases h1 : (decide (Int.ofNat ii < Int.ofNat n)) with
  | true =>
    have g1 := of_decide_eq_true h1
    try simp only [Int.ofNat_eq_natCast, ge_iff_le, gt_iff_lt, Int.not_lt, Int.not_le] at g1
    cases h2 : ((E (0 + ii)).4 != 18446744073709551615) with
    | true =>
      refine round_norm (s0 := o4U m n f E M a b) (ii + 1) (o4_1 ..) (ob_cons rfl (ob_cons rfl (ob_cons rfl (ob_cons rfl (ob_cons rfl (ob_cons rfl (ob_cons rfl (ob_cons rfl (ob_cons ?_ (ob_cons ?_ (ob_cons rfl (ob_cons (Nat.le_refl _) (ob_cons (.inl ⟨rfl, rfl⟩) (ob_cons rfl (ob_cons rfl (ob_cons rfl (ob_cons rfl (ob_cons (Nat.le_refl _) (ob_cons (.inl ⟨rfl, rfl⟩) (ob_cons (fun _ => rfl) (ob_cons rfl (ob_cons (Nat.le_refl _) (ob_cons (.inl ⟨rfl, rfl⟩) (ob_cons h2 (ob_cons ?_ (ob_cons ?_ (ob_cons h1 ob_nil))))))))))))))))))))))))))) (by show ii + 1 ≤ n; omega) (by show n - (ii + 1) < n - ii; omega)
      · -- IntKind.i64.wrap (Int.ofNat (cntB (o4P E) ii) + 1) = Int.ofNat (cntB (o4P E) (ii + 1))
        first | exact wrap_nat64 _ (by simp; omega) (by simp; omega) | exact cnt_t hc h2 hi' | exact cnt_f h2 | exact cnt_e h1 hi
      · -- IntKind.i64.wrap (Int.ofNat ii + 1) = Int.ofNat (ii + 1)
        first | exact wrap_nat64 _ (by simp; omega) (by simp; omega) | exact cnt_t hc h2 hi' | exact cnt_f h2 | exact cnt_e h1 hi
      · -- (0 + ii).blt n = true
        first | (apply Nat.ble_eq_true_of_le; omega) | (simp [Nat.blt_eq]; omega) | exact cnt_t hc h2 hi' | exact cnt_f h2 | exact cnt_e h1 hi
      · -- (ii.blt n && decide (0 ≤ Int.ofNat ii)) = true
        first | (apply Nat.ble_eq_true_of_le; omega) | (simp [Nat.blt_eq]; omega) | exact cnt_t hc h2 hi' | exact cnt_f h2 | exact cnt_e h1 hi
    | false =>
      refine round_norm (s0 := o4U m n f E M a b) (ii + 1) (o4_2 ..) (ob_cons rfl (ob_cons rfl (ob_cons rfl (ob_cons rfl (ob_cons rfl (ob_cons rfl (ob_cons rfl (ob_cons rfl (ob_cons ?_ (ob_cons ?_ (ob_cons rfl (ob_cons (Nat.le_refl _) (ob_cons (.inl ⟨rfl, rfl⟩) (ob_cons rfl (ob_cons rfl (ob_cons rfl (ob_cons rfl (ob_cons (Nat.le_refl _) (ob_cons (.inl ⟨rfl, rfl⟩) (ob_cons (fun _ => rfl) (ob_cons rfl (ob_cons (Nat.le_refl _) (ob_cons (.inl ⟨rfl, rfl⟩) (ob_cons h2 (ob_cons ?_ (ob_cons ?_ (ob_cons h1 ob_nil))))))))))))))))))))))))))) (by show ii + 1 ≤ n; omega) (by show n - (ii + 1) < n - ii; omega)
      · -- Int.ofNat (cntB (o4P E) ii) = Int.ofNat (cntB (o4P E) (ii + 1))
        first | rfl | exact cnt_t hc h2 hi' | exact cnt_f h2 | exact cnt_e h1 hi
      · -- IntKind.i64.wrap (Int.ofNat ii + 1) = Int.ofNat (ii + 1)
        first | exact wrap_nat64 _ (by simp; omega) (by simp; omega) | exact cnt_t hc h2 hi' | exact cnt_f h2 | exact cnt_e h1 hi
      · -- (0 + ii).blt n = true
        first | (apply Nat.ble_eq_true_of_le; omega) | (simp [Nat.blt_eq]; omega) | exact cnt_t hc h2 hi' | exact cnt_f h2 | exact cnt_e h1 hi
      · -- (ii.blt n && decide (0 ≤ Int.ofNat ii)) = true
        first | (apply Nat.ble_eq_true_of_le; omega) | (simp [Nat.blt_eq]; omega) | exact cnt_t hc h2 hi' | exact cnt_f h2 | exact cnt_e h1 hi
  | false =>
    have g1 := of_decide_eq_false h1
    try simp only [Int.ofNat_eq_natCast, ge_iff_le, gt_iff_lt, Int.not_lt, Int.not_le] at g1
    refine round_exit (s0 := o4U m n f E M a b) (o4_3 ..) (by simp) (ob_cons rfl (ob_cons rfl (ob_cons rfl (ob_cons rfl (ob_cons rfl (ob_cons rfl (ob_cons rfl (ob_cons rfl (ob_cons ?_ (ob_cons rfl (ob_cons (Nat.le_refl _) (ob_cons (.inl ⟨rfl, rfl⟩) (ob_cons rfl (ob_cons rfl (ob_cons rfl (ob_cons rfl (ob_cons (Nat.le_refl _) (ob_cons (.inl ⟨rfl, rfl⟩) (ob_cons (fun _ => rfl) (ob_cons rfl (ob_cons (Nat.le_refl _) (ob_cons (.inl ⟨rfl, rfl⟩) (ob_cons h1 ob_nil)))))))))))))))))))))))
    · -- Int.ofNat (cntB (o4P E) ii) = Int.ofNat (cntB (o4P E) n)
      first | rfl | exact cnt_t hc h2 hi' | exact cnt_f h2 | exact cnt_e h1 hi
theorem o2i_1 : castSt ((o2U m n f E M a b).hp) [] (o2U m n f E M a b) (o2T m n f E M a b 0) =
 some ([a = a,
 b = b,
 (0 : Nat) = 0,
 (0 : Nat) = 0,
 Int.ofNat n = Int.ofNat n,
 (0 : Nat) = 0,
 n = n,
 some n = some n,
 (0 : Int) = 0,
 false = false,
 n ≤ n,
 (entF E = fun i j => entF E (0 + i) j) ∧ plainSh eSh = true ∨ ∀ (i : Nat), i < n → rowOb eSh 0 (fun j => entF E (0 + i) j) (entF E i),
 (0 : Nat) = 0,
 n = n,
 (none : Option Nat) = none,
 false = false,
 n ≤ n,
 entF E = entF E ∧ plainSh eSh = true ∨ ∀ (i : Nat), i < n → rowOb eSh 0 (entF E i) (entF E i),
 ∀ (k : List Int), M k = M k,
 true = true,
 m ≤ m,
 f = f ∧ plainSh eSh = true ∨ ∀ (i : Nat), i < m → rowOb eSh 0 (f i) (f i)]) := by kernel_rfl
theorem o2_1 (ii : Nat) : roundB EB 2000 lcO2 ((o2U m n f E M a b).hp) [] (o2T m n f E M a b ii) [Hint.b true, Hint.b false, Hint.b false, Hint.b false, Hint.lp [1, 2, 6, 7, 8, 10, 11, 12, 13] (Ex.exit 4) (o3S m n f E M a b ii).tmps (o3H m n f E M ii) 8 [7, 2]] (o2T m n f E M a b (ii + 1)) =
 some (Ex.norm, [a = a,
 b = b,
 (0 : Nat) = 0,
 (0 : Nat) = 0,
 Int.ofNat n = Int.ofNat n,
 (0 : Nat) = 0,
 n = n,
 some n = some n,
 IntKind.i64.wrap (Int.ofNat ii + 1) = Int.ofNat (ii + 1),
 false = false,
 n ≤ n,
 entF E = entF E ∧ plainSh eSh = true ∨ ∀ (i : Nat), i < n → rowOb eSh 0 (entF E i) (entF E i),
 (0 : Nat) = 0,
 n = n,
 (none : Option Nat) = none,
 false = false,
 n ≤ n,
 entF E = entF E ∧ plainSh eSh = true ∨ ∀ (i : Nat), i < n → rowOb eSh 0 (entF E i) (entF E i),
 ∀ (k : List Int), M k = M k,
 true = true,
 m ≤ m,
 f = f ∧ plainSh eSh = true ∨ ∀ (i : Nat), i < m → rowOb eSh 0 (f i) (f i),
 o3Lp m n f E M a b ii,
 (E (0 + ii)).3 = false,
 decide ((E (0 + ii)).1 ≥ 256) = false,
 decide ((E (0 + ii)).1 < 0) = false,
 (0 + ii).blt n = true,
 (ii.blt n && decide (0 ≤ Int.ofNat ii)) = true,
 decide (Int.ofNat ii < Int.ofNat n) = true]) := by kernel_rfl
theorem o2_2 (ii : Nat) : roundB EB 2000 lcO2 ((o2U m n f E M a b).hp) [] (o2T m n f E M a b ii) [Hint.b false] (o2S m n f E M a b) =
 some (Ex.exit 2, [a = a,
 b = b,
 (0 : Nat) = 0,
 (0 : Nat) = 0,
 Int.ofNat n = Int.ofNat n,
 (0 : Nat) = 0,
 n = n,
 some n = some n,
 false = false,
 n ≤ n,
 entF E = entF E ∧ plainSh eSh = true ∨ ∀ (i : Nat), i < n → rowOb eSh 0 (entF E i) (entF E i),
 (0 : Nat) = 0,
 n = n,
 (none : Option Nat) = none,
 false = false,
 n ≤ n,
 entF E = entF E ∧ plainSh eSh = true ∨ ∀ (i : Nat), i < n → rowOb eSh 0 (entF E i) (entF E i),
 ∀ (k : List Int), M k = M k,
 true = true,
 m ≤ m,
 f = f ∧ plainSh eSh = true ∨ ∀ (i : Nat), i < m → rowOb eSh 0 (f i) (f i),
 decide (Int.ofNat ii < Int.ofNat n) = false]) := by kernel_rfl
theorem o2_lp (hu : Uniq n E) (hn : n ≤ 1000000) : LoopHolds Try.prog lcO2 (o2U m n f E M a b) (.exit 2) (o2S m n f E M a b) := by
  refine loop_rule EB_ok (I := Nat) (fun i => o2T m n f E M a b i) (fun i => n - i) (fun i => i ≤ n) ?_ (fun ii hi => ?_)
  ·
    refine ⟨0, [], _, Nat.zero_le _, o2i_1 .., (ob_cons rfl (ob_cons rfl (ob_cons rfl (ob_cons rfl (ob_cons rfl (ob_cons rfl (ob_cons rfl (ob_cons rfl (ob_cons rfl (ob_cons rfl (ob_cons (Nat.le_refl _) (ob_cons ?_ (ob_cons rfl (ob_cons rfl (ob_cons rfl (ob_cons rfl (ob_cons (Nat.le_refl _) (ob_cons (.inl ⟨rfl, rfl⟩) (ob_cons (fun _ => rfl) (ob_cons rfl (ob_cons (Nat.le_refl _) (ob_cons (.inl ⟨rfl, rfl⟩) ob_nil))))))))))))))))))))))⟩
    · -- (entF E = fun i j => entF E (0 + i) j) ∧ plainSh eSh = true ∨   ∀ (i : Nat), i < n → rowOb eSh 0 (fun j => entF E (0 + i) j) (entF E i)
      first | exact .inl ⟨rfl, rfl⟩ | exact .inl ⟨by funext i j; rw [Nat.zero_add], rfl⟩
  cases h1 : (decide (Int.ofNat ii < Int.ofNat n)) with
  | true =>
    have g1 := of_decide_eq_true h1
    try simp only [Int.ofNat_eq_natCast, ge_iff_le, gt_iff_lt, Int.not_lt, Int.not_le] at g1
    refine round_norm (s0 := o2U m n f E M a b) (ii + 1) (o2_1 ..) (ob_cons rfl (ob_cons rfl (ob_cons rfl (ob_cons rfl (ob_cons rfl (ob_cons rfl (ob_cons rfl (ob_cons rfl (ob_cons ?_ (ob_cons rfl (ob_cons (Nat.le_refl _) (ob_cons (.inl ⟨rfl, rfl⟩) (ob_cons rfl (ob_cons rfl (ob_cons rfl (ob_cons rfl (ob_cons (Nat.le_refl _) (ob_cons (.inl ⟨rfl, rfl⟩) (ob_cons (fun _ => rfl) (ob_cons rfl (ob_cons (Nat.le_refl _) (ob_cons (.inl ⟨rfl, rfl⟩) (ob_cons ?_ (ob_cons ?_ (ob_cons ?_ (ob_cons ?_ (ob_cons ?_ (ob_cons ?_ (ob_cons h1 ob_nil))))))))))))))))))))))))))))) (by show ii + 1 ≤ n; omega) (by show n - (ii + 1) < n - ii; omega)
    · -- IntKind.i64.wrap (Int.ofNat ii + 1) = Int.ofNat (ii + 1)
      first | exact wrap_nat64 _ (by simp; omega) (by simp; omega) | exact o2_slot hu (by omega) | exact o2_slot' hu (by omega) | exact o2_mark hu (by omega) | exact o3_lp m n f E M a b hu hn ii (by omega)
    · -- o3Lp m n f E M a b ii
      first | trivial | exact o2_slot hu (by omega) | exact o2_slot' hu (by omega) | exact o2_mark hu (by omega) | exact o3_lp m n f E M a b hu hn ii (by omega)
    · -- (E (0 + ii)).3 = false
      first | (apply Nat.ble_eq_true_of_le; omega) | (simp [Nat.blt_eq]; omega) | exact o2_slot hu (by omega) | exact o2_slot' hu (by omega) | exact o2_mark hu (by omega) | exact o3_lp m n f E M a b hu hn ii (by omega)
    · -- decide ((E (0 + ii)).1 ≥ 256) = false
      first | (apply Nat.ble_eq_true_of_le; omega) | (simp [Nat.blt_eq]; omega) | exact o2_slot hu (by omega) | exact o2_slot' hu (by omega) | exact o2_mark hu (by omega) | exact o3_lp m n f E M a b hu hn ii (by omega)
    · -- decide ((E (0 + ii)).1 < 0) = false
      first | (apply Nat.ble_eq_true_of_le; omega) | (simp [Nat.blt_eq]; omega) | exact o2_slot hu (by omega) | exact o2_slot' hu (by omega) | exact o2_mark hu (by omega) | exact o3_lp m n f E M a b hu hn ii (by omega)
    · -- (0 + ii).blt n = true
      first | (apply Nat.ble_eq_true_of_le; omega) | (simp [Nat.blt_eq]; omega) | exact o2_slot hu (by omega) | exact o2_slot' hu (by omega) | exact o2_mark hu (by omega) | exact o3_lp m n f E M a b hu hn ii (by omega)
    · -- (ii.blt n && decide (0 ≤ Int.ofNat ii)) = true
      first | (apply Nat.ble_eq_true_of_le; omega) | (simp [Nat.blt_eq]; omega) | exact o2_slot hu (by omega) | exact o2_slot' hu (by omega) | exact o2_mark hu (by omega) | exact o3_lp m n f E M a b hu hn ii (by omega)
  | false =>
    have g1 := of_decide_eq_false h1
    try simp only [Int.ofNat_eq_natCast, ge_iff_le, gt_iff_lt, Int.not_lt, Int.not_le] at g1
    refine round_exit (s0 := o2U m n f E M a b) (o2_2 ..) (by simp) (ob_cons rfl (ob_cons rfl (ob_cons rfl (ob_cons rfl (ob_cons rfl (ob_cons rfl (ob_cons rfl (ob_cons rfl (ob_cons rfl (ob_cons (Nat.le_refl _) (ob_cons (.inl ⟨rfl, rfl⟩) (ob_cons rfl (ob_cons rfl (ob_cons rfl (ob_cons rfl (ob_cons (Nat.le_refl _) (ob_cons (.inl ⟨rfl, rfl⟩) (ob_cons (fun _ => rfl) (ob_cons rfl (ob_cons (Nat.le_refl _) (ob_cons (.inl ⟨rfl, rfl⟩) (ob_cons h1 ob_nil))))))))))))))))))))))
end
end Go.Proofs.Ytnecknppajbcdaa
