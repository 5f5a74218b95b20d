/-
  RetiresParts: the entries are added.
-/
import Derived.Test.YtmlfmmnnbdlabaaNrPeDef
set_option linter.unusedSimpArgs false
set_option linter.unusedVariables false
namespace Go.Proofs.Ytmlfmmnnbdlabaa
open Go.Ev
section
variable (m q : Nat) (f g : Nat → Nat → AV)
noncomputable def paT : I2 → St
  | .a i => paA m q f g i
  | .b i => paB m q f g (lsN (inE f) i).n (lsN (inE f) i).E (lsN (inE f) i).M i
def paok : I2 → Prop
  | .a i => i ≤ m ∧ (lsN (inE f) i).n = 0
  | .b i => i ≤ m ∧ 0 < (lsN (inE f) i).n
def pamu : I2 → Nat
  | .a i => m - i
  | .b i => m - i
theorem pb_1 (n : Nat) (E : Nat → Ent) (M : List Int → Option Int) (ii : Nat) : roundB ERp 3000 paL ((paU m q f g).hp) [(4, Src.nm 6), (5, Src.nm 5)] (paB m q f g n E M ii) [Hint.b true] (paB m q f g (addN n M (inE f ii)) (addF n E (inE f ii)) (addM M (inE f ii)) (ii + 1)) =
 some (Ex.norm, [(0 : Nat) = 0,
 m = m,
 (none : Option Nat) = none,
 (0 : Nat) = 0,
 q = q,
 (none : Option Nat) = none,
 (0 : Nat) = 0,
 (0 : Nat) = 0,
 IntKind.i64.wrap (Int.ofNat ii + 1) = Int.ofNat (ii + 1),
 (0 : Nat) = 0,
 addN n M (Ent.mk (avInt (f (0 + ii) 0)) (avInt (f (0 + ii) 1)) (avBool (f (0 + ii) 2)) (avInt (f (0 + ii) 3)) (avInt (f (0 + ii) 4)) (avInt (f (0 + ii) 5))) = addN n M (inE f ii),
 (none : Option Nat) = none,
 false = false,
 addN n M (inE f ii) ≤ addN n M (Ent.mk (avInt (f (0 + ii) 0)) (avInt (f (0 + ii) 1)) (avBool (f (0 + ii) 2)) (avInt (f (0 + ii) 3)) (avInt (f (0 + ii) 4)) (avInt (f (0 + ii) 5))),
 entF (addF n E (inE f ii)) = entF (addF n (fun i => entOf (entF E i)) (Ent.mk (avInt (f (0 + ii) 0)) (avInt (f (0 + ii) 1)) (avBool (f (0 + ii) 2)) (avInt (f (0 + ii) 3)) (avInt (f (0 + ii) 4)) (avInt (f (0 + ii) 5)))) ∧ plainSh eSh = true ∨ ∀ (i : Nat), i < addN n M (inE f ii) → rowOb eSh 0 (entF (addF n (fun i => entOf (entF E i)) (Ent.mk (avInt (f (0 + ii) 0)) (avInt (f (0 + ii) 1)) (avBool (f (0 + ii) 2)) (avInt (f (0 + ii) 3)) (avInt (f (0 + ii) 4)) (avInt (f (0 + ii) 5)))) i) (entF (addF n E (inE f ii)) i),
 ∀ (k : List Int), addM M (Ent.mk (avInt (f (0 + ii) 0)) (avInt (f (0 + ii) 1)) (avBool (f (0 + ii) 2)) (avInt (f (0 + ii) 3)) (avInt (f (0 + ii) 4)) (avInt (f (0 + ii) 5))) k = addM M (inE f ii) k,
 true = true,
 m ≤ m,
 f = f ∧ plainSh eSh = true ∨ ∀ (i : Nat), i < m → rowOb eSh 0 (f i) (f i),
 true = true,
 q ≤ q,
 g = g ∧ plainSh [CK.bool] = true ∨ ∀ (i : Nat), i < q → rowOb [CK.bool] 0 (g i) (g i),
 n ≤ n,
 n ≤ 1000000,
 (0 + ii).blt m = true,
 (ii.blt m && decide (0 ≤ Int.ofNat ii)) = true,
 decide (Int.ofNat ii < Int.ofNat m) = true]) := by kernel_rfl
theorem pb_2 (n : Nat) (E : Nat → Ent) (M : List Int → Option Int) (ii : Nat) : roundB ERp 3000 paL ((paU m q f g).hp) [(4, Src.nm 4), (5, Src.nm 5)] (paB m q f g n E M ii) [Hint.b false] (paXB m q f g n E M) =
 some (Ex.exit 0, [(0 : Nat) = 0,
 m = m,
 (none : Option Nat) = none,
 (0 : Nat) = 0,
 q = q,
 (none : Option Nat) = none,
 (0 : Nat) = 0,
 (0 : Nat) = 0,
 (0 : Nat) = 0,
 n = n,
 (none : Option Nat) = none,
 false = false,
 n ≤ n,
 entF E = entF E ∧ plainSh eSh = true ∨ ∀ (i : Nat), i < n → rowOb eSh 0 (entF E i) (entF E i),
 ∀ (k : List Int), M k = M k,
 true = true,
 m ≤ m,
 f = f ∧ plainSh eSh = true ∨ ∀ (i : Nat), i < m → rowOb eSh 0 (f i) (f i),
 true = true,
 q ≤ q,
 g = g ∧ plainSh [CK.bool] = true ∨ ∀ (i : Nat), i < q → rowOb [CK.bool] 0 (g i) (g i),
 decide (Int.ofNat ii < Int.ofNat m) = false]) := by kernel_rfl
theorem pa_1 (n : Nat) (E : Nat → Ent) (M : List Int → Option Int) (ii : Nat) : roundB ERp 3000 paL ((paU m q f g).hp) [] (paA m q f g ii) [Hint.b true, Hint.b true, Hint.b true, Hint.b true] (paA m q f g (ii + 1)) =
 some (Ex.norm, [(0 : Nat) = 0,
 m = m,
 (none : Option Nat) = none,
 (0 : Nat) = 0,
 q = q,
 (none : Option Nat) = none,
 (0 : Nat) = 0,
 (0 : Nat) = 0,
 IntKind.i64.wrap (Int.ofNat ii + 1) = Int.ofNat (ii + 1),
 true = true,
 m ≤ m,
 f = f ∧ plainSh eSh = true ∨ ∀ (i : Nat), i < m → rowOb eSh 0 (f i) (f i),
 true = true,
 q ≤ q,
 g = g ∧ plainSh [CK.bool] = true ∨ ∀ (i : Nat), i < q → rowOb [CK.bool] 0 (g i) (g i),
 (!decide (avInt (f (0 + ii) 0) < 256)) = true,
 decide (avInt (f (0 + ii) 0) ≥ 0) = true,
 (and2 (avInt (f (0 + ii) 0) == avInt (f (0 + ii) 0)) (and2 (avInt (f (0 + ii) 1) == avInt (f (0 + ii) 1)) (and2 (avBool (f (0 + ii) 2) == false) true)) == true) = true,
 (0 + ii).blt m = true,
 (ii.blt m && decide (0 ≤ Int.ofNat ii)) = true,
 decide (Int.ofNat ii < Int.ofNat m) = true]) := by kernel_rfl
theorem pa_2 (n : Nat) (E : Nat → Ent) (M : List Int → Option Int) (ii : Nat) : roundB ERp 3000 paL ((paU m q f g).hp) [(4, Src.nm 4704952713861037901731138301631313894730901873571445199306628680956271979111974199798823723819869319322995822092669839567565867428952907743035689795582), (5, Src.nm 1841282216941579801882419204465524523121861150899223944084351394554075260477629437121839426933321088397373759821752539942684706807060533592497296769021)] (paA m q f g ii) [Hint.b true, Hint.b true, Hint.b true, Hint.b false] (paB m q f g n E M (ii + 1)) =
 some (Ex.norm, [(0 : Nat) = 0,
 m = m,
 (none : Option Nat) = none,
 (0 : Nat) = 0,
 q = q,
 (none : Option Nat) = none,
 (0 : Nat) = 0,
 (0 : Nat) = 0,
 IntKind.i64.wrap (Int.ofNat ii + 1) = Int.ofNat (ii + 1),
 (0 : Nat) = 0,
 1 = n,
 (none : Option Nat) = none,
 n = 1,
 ∀ (i : Nat), i < n → rowOb eSh 0 (listRow 6 ([] ++ [AV.sym IntKind.i64 (avInt (f (0 + ii) 0)), AV.sym IntKind.u32 (avInt (f (0 + ii) 1)), AV.symb (avBool (f (0 + ii) 2)), AV.sym IntKind.u64 (avInt (f (0 + ii) 3)), AV.sym IntKind.u64 (avInt (f (0 + ii) 4)), AV.sym IntKind.u64 (avInt (f (0 + ii) 5))]) i) (entF E i),
 ∀ (k : List Int), setKey (fun x => none) [avInt (f (0 + ii) 0), avInt (f (0 + ii) 1), if avBool (f (0 + ii) 2) = true then 1 else 0] (some 1) k = M k,
 true = true,
 m ≤ m,
 f = f ∧ plainSh eSh = true ∨ ∀ (i : Nat), i < m → rowOb eSh 0 (f i) (f i),
 true = true,
 q ≤ q,
 g = g ∧ plainSh [CK.bool] = true ∨ ∀ (i : Nat), i < q → rowOb [CK.bool] 0 (g i) (g i),
 (!decide (avInt (f (0 + ii) 0) < 256)) = false,
 decide (avInt (f (0 + ii) 0) ≥ 0) = true,
 (and2 (avInt (f (0 + ii) 0) == avInt (f (0 + ii) 0)) (and2 (avInt (f (0 + ii) 1) == avInt (f (0 + ii) 1)) (and2 (avBool (f (0 + ii) 2) == false) true)) == true) = true,
 (0 + ii).blt m = true,
 (ii.blt m && decide (0 ≤ Int.ofNat ii)) = true,
 decide (Int.ofNat ii < Int.ofNat m) = true]) := by kernel_rfl
theorem pa_3 (n : Nat) (E : Nat → Ent) (M : List Int → Option Int) (ii : Nat) : roundB ERp 3000 paL ((paU m q f g).hp) [] (paA m q f g ii) [Hint.b true, Hint.b true, Hint.b false] (paA m q f g (ii + 1)) =
 some (Ex.norm, [(0 : Nat) = 0,
 m = m,
 (none : Option Nat) = none,
 (0 : Nat) = 0,
 q = q,
 (none : Option Nat) = none,
 (0 : Nat) = 0,
 (0 : Nat) = 0,
 IntKind.i64.wrap (Int.ofNat ii + 1) = Int.ofNat (ii + 1),
 true = true,
 m ≤ m,
 f = f ∧ plainSh eSh = true ∨ ∀ (i : Nat), i < m → rowOb eSh 0 (f i) (f i),
 true = true,
 q ≤ q,
 g = g ∧ plainSh [CK.bool] = true ∨ ∀ (i : Nat), i < q → rowOb [CK.bool] 0 (g i) (g i),
 decide (avInt (f (0 + ii) 0) ≥ 0) = false,
 (and2 (avInt (f (0 + ii) 0) == avInt (f (0 + ii) 0)) (and2 (avInt (f (0 + ii) 1) == avInt (f (0 + ii) 1)) (and2 (avBool (f (0 + ii) 2) == false) true)) == true) = true,
 (0 + ii).blt m = true,
 (ii.blt m && decide (0 ≤ Int.ofNat ii)) = true,
 decide (Int.ofNat ii < Int.ofNat m) = true]) := by kernel_rfl
theorem pa_4 (n : Nat) (E : Nat → Ent) (M : List Int → Option Int) (ii : Nat) : roundB ERp 3000 paL ((paU m q f g).hp) [] (paA m q f g ii) [Hint.b true, Hint.b false] (paA m q f g (ii + 1)) =
 some (Ex.norm, [(0 : Nat) = 0,
 m = m,
 (none : Option Nat) = none,
 (0 : Nat) = 0,
 q = q,
 (none : Option Nat) = none,
 (0 : Nat) = 0,
 (0 : Nat) = 0,
 IntKind.i64.wrap (Int.ofNat ii + 1) = Int.ofNat (ii + 1),
 true = true,
 m ≤ m,
 f = f ∧ plainSh eSh = true ∨ ∀ (i : Nat), i < m → rowOb eSh 0 (f i) (f i),
 true = true,
 q ≤ q,
 g = g ∧ plainSh [CK.bool] = true ∨ ∀ (i : Nat), i < q → rowOb [CK.bool] 0 (g i) (g i),
 (and2 (avInt (f (0 + ii) 0) == avInt (f (0 + ii) 0)) (and2 (avInt (f (0 + ii) 1) == avInt (f (0 + ii) 1)) (and2 (avBool (f (0 + ii) 2) == false) true)) == true) = false,
 (0 + ii).blt m = true,
 (ii.blt m && decide (0 ≤ Int.ofNat ii)) = true,
 decide (Int.ofNat ii < Int.ofNat m) = true]) := by kernel_rfl
theorem pa_5 (n : Nat) (E : Nat → Ent) (M : List Int → Option Int) (ii : Nat) : roundB ERp 3000 paL ((paU m q f g).hp) [] (paA m q f g ii) [Hint.b false] (paXA m q f g) =
 some (Ex.exit 0, [(0 : Nat) = 0,
 m = m,
 (none : Option Nat) = none,
 (0 : Nat) = 0,
 q = q,
 (none : Option Nat) = none,
 (0 : Nat) = 0,
 (0 : Nat) = 0,
 true = true,
 m ≤ m,
 f = f ∧ plainSh eSh = true ∨ ∀ (i : Nat), i < m → rowOb eSh 0 (f i) (f i),
 true = true,
 q ≤ q,
 g = g ∧ plainSh [CK.bool] = true ∨ ∀ (i : Nat), i < q → rowOb [CK.bool] 0 (g i) (g i),
 decide (Int.ofNat ii < Int.ofNat m) = false]) := by kernel_rfl
theorem pai_1 : castSt ((paU m q f g).hp) [] (paU m q f g) (paA m q f g 0) =
 some ([(0 : Nat) = 0,
 m = m,
 (none : Option Nat) = none,
 (0 : Nat) = 0,
 q = q,
 (none : Option Nat) = none,
 (0 : Nat) = 0,
 (0 : Nat) = 0,
 (0 : Int) = 0,
 true = true,
 m ≤ m,
 f = f ∧ plainSh eSh = true ∨ ∀ (i : Nat), i < m → rowOb eSh 0 (f i) (f i),
 true = true,
 q ≤ q,
 g = g ∧ plainSh [CK.bool] = true ∨ ∀ (i : Nat), i < q → rowOb [CK.bool] 0 (g i) (g i)]) := by kernel_rfl
theorem pa_roundB (hm : m ≤ 100) (ii : Nat) (hi : ii ≤ m) (hp : 0 < (lsN (inE f) ii).n) : RoundOk ERp paL (paU m q f g) (.exit 0) (paXB m q f g (lsN (inE f) m).n (lsN (inE f) m).E (lsN (inE f) m).M) (paT m q f g) (pamu m) (paok m f) (.b ii) := by
  have hn := lsN_le (inE f) ii
  have hn100 : (lsN (inE f) ii).n ≤ 1000000 := by omega
  have hpos : 0 < (lsN (inE f) (ii + 1)).n := Nat.lt_of_lt_of_le hp (addN_ge _ _ _)
  cases h1 : (decide (Int.ofNat ii < Int.ofNat m)) with
  | true =>
    have g1 := of_decide_eq_true h1
    try simp only [Int.ofNat_eq_natCast, ge_iff_le, gt_iff_lt, Int.not_lt, Int.not_le] at g1
    refine round_norm (s0 := paU m q f g) (T := paT m q f g) (i := .b ii) (.b (ii + 1)) (pb_1 ..) (ob_cons rfl (ob_cons rfl (ob_cons rfl (ob_cons rfl (ob_cons rfl (ob_cons rfl (ob_cons rfl (ob_cons rfl (ob_cons ?_ (ob_cons rfl (ob_cons ?_ (ob_cons rfl (ob_cons rfl (ob_cons ?_ (ob_cons ?_ (ob_cons ?_ (ob_cons rfl (ob_cons (Nat.le_refl _) (ob_cons (.inl ⟨rfl, rfl⟩) (ob_cons rfl (ob_cons (Nat.le_refl _) (ob_cons (.inl ⟨rfl, rfl⟩) (ob_cons (Nat.le_refl _) (ob_cons ?_ (ob_cons ?_ (ob_cons ?_ (ob_cons h1 ob_nil))))))))))))))))))))))))))) ⟨by omega, hpos⟩ (by show m - (ii + 1) < m - ii; omega)
    ·
      first | exact wrap_nat64 _ (by simp; omega) (by simp; omega) | simp
    ·
      first | rfl | simp
    ·
      first | exact Nat.le_refl _ | omega | simp
    ·
      first | exact .inl ⟨rfl, rfl⟩ | simp
    ·
      first | exact fun _ => rfl | simp
    ·
      first | exact Nat.le_refl _ | omega | simp
    ·
      first | (apply Nat.ble_eq_true_of_le; omega) | (simp [Nat.blt_eq]; omega) | simp
    ·
      first | (apply Nat.ble_eq_true_of_le; omega) | (simp [Nat.blt_eq]; omega) | simp
  | false =>
    have g1 := of_decide_eq_false h1
    try simp only [Int.ofNat_eq_natCast, ge_iff_le, gt_iff_lt, Int.not_lt, Int.not_le] at g1
    obtain rfl : ii = m := by omega
    refine round_exit (s0 := paU ii q f g) (T := paT ii q f g) (i := .b ii) (pb_2 ..) (by simp) (ob_cons rfl (ob_cons rfl (ob_cons rfl (ob_cons rfl (ob_cons rfl (ob_cons rfl (ob_cons rfl (ob_cons rfl (ob_cons rfl (ob_cons rfl (ob_cons rfl (ob_cons rfl (ob_cons (Nat.le_refl _) (ob_cons (.inl ⟨rfl, rfl⟩) (ob_cons (fun _ => rfl) (ob_cons rfl (ob_cons (Nat.le_refl _) (ob_cons (.inl ⟨rfl, rfl⟩) (ob_cons rfl (ob_cons (Nat.le_refl _) (ob_cons (.inl ⟨rfl, rfl⟩) (ob_cons h1 ob_nil))))))))))))))))))))))
theorem pa_roundA (hm : m ≤ 100) (ii : Nat) (hi : ii ≤ m) (hp : (lsN (inE f) ii).n = 0) (s1 : St) (hs : ii = m → s1 = paXA m q f g) : RoundOk ERp paL (paU m q f g) (.exit 0) s1 (paT m q f g) (pamu m) (paok m f) (.a ii) := by
  have hM := lsN_zero (inE f) ii hp
  cases h1 : (decide (Int.ofNat ii < Int.ofNat m)) with
  | true =>
    have g1 := of_decide_eq_true h1
    try simp only [Int.ofNat_eq_natCast, ge_iff_le, gt_iff_lt, Int.not_lt, Int.not_le] at g1
    cases h2 : (and2 (avInt (f (0 + ii) 0) == avInt (f (0 + ii) 0))     (and2 (avInt (f (0 + ii) 1) == avInt (f (0 + ii) 1)) (and2 (avBool (f (0 + ii) 2) == false) true)) ==   true) with
    | true =>
      cases h3 : (decide (avInt (f (0 + ii) 0) ≥ 0)) with
      | true =>
        have g3 := of_decide_eq_true h3
        try simp only [Int.ofNat_eq_natCast, ge_iff_le, gt_iff_lt, Int.not_lt, Int.not_le] at g3
        cases h4 : (!decide (avInt (f (0 + ii) 0) < 256)) with
        | true =>
          have g4 : ¬ (avInt (f (0 + ii) 0) < 256) := by simpa using h4
          have hc : addE (fun _ => none) (inE f ii) = 1 := by (dsimp only [addE, c1, c2, c3, c4, inE, entOf]; (try rw [h1]); (try rw [h2]); (try rw [h3]); (try rw [h4]))
          have hno : (lsN (inE f) (ii + 1)).n = 0 := by (show addN _ _ _ = 0; rw [hp, hM]; exact addN_f (by rw [hc]; rfl))
          refine round_norm (s0 := paU m q f g) (T := paT m q f g) (i := .a ii) (.a (ii + 1)) (pa_1 m q f g 0 (fun _ => ent0) (fun _ => none) ii) (ob_cons rfl (ob_cons rfl (ob_cons rfl (ob_cons rfl (ob_cons rfl (ob_cons rfl (ob_cons rfl (ob_cons rfl (ob_cons ?_ (ob_cons rfl (ob_cons (Nat.le_refl _) (ob_cons (.inl ⟨rfl, rfl⟩) (ob_cons rfl (ob_cons (Nat.le_refl _) (ob_cons (.inl ⟨rfl, rfl⟩) (ob_cons h4 (ob_cons h3 (ob_cons h2 (ob_cons ?_ (ob_cons ?_ (ob_cons h1 ob_nil))))))))))))))))))))) ⟨by omega, hno⟩ (by show m - (ii + 1) < m - ii; omega)
          ·
            first | exact wrap_nat64 _ (by simp; omega) (by simp; omega) | exact hn.symm | exact hn | (rw [hn]; rfl) | (rw [hn]; exact Nat.le_refl _) | (intro k; rw [hMM]; rfl) | exact one_rowsN (z := listRow 6 _) hn hE0
          ·
            first | (apply Nat.ble_eq_true_of_le; omega) | (simp [Nat.blt_eq]; omega) | exact hn.symm | exact hn | (rw [hn]; rfl) | (rw [hn]; exact Nat.le_refl _) | (intro k; rw [hMM]; rfl) | exact one_rowsN (z := listRow 6 _) hn hE0
          ·
            first | (apply Nat.ble_eq_true_of_le; omega) | (simp [Nat.blt_eq]; omega) | exact hn.symm | exact hn | (rw [hn]; rfl) | (rw [hn]; exact Nat.le_refl _) | (intro k; rw [hMM]; rfl) | exact one_rowsN (z := listRow 6 _) hn hE0
        | false =>
          have g4 : (avInt (f (0 + ii) 0) < 256) := by simpa using h4
          have hc : addE (fun _ => none) (inE f ii) = 0 := by (dsimp only [addE, c1, c2, c3, c4, inE, entOf]; (try rw [h1]); (try rw [h2]); (try rw [h3]); (try rw [h4]); rfl)
          have hn : (lsN (inE f) (ii + 1)).n = 1 := by (show addN _ _ _ = 1; rw [hp, hM]; exact addN_t (by rw [hc]; rfl))
          have hyes : 0 < (lsN (inE f) (ii + 1)).n := by omega
          have hMM := lsN_one (inE f) ii hp hc
          have hE0 : (lsN (inE f) (ii + 1)).E 0 = inE f ii := by (show addF _ _ _ 0 = _; simp [addF, hp])
          refine round_norm (s0 := paU m q f g) (T := paT m q f g) (i := .a ii) (.b (ii + 1)) (pa_2 m q f g (lsN (inE f) (ii + 1)).n (lsN (inE f) (ii + 1)).E (lsN (inE f) (ii + 1)).M ii) (ob_cons rfl (ob_cons rfl (ob_cons rfl (ob_cons rfl (ob_cons rfl (ob_cons rfl (ob_cons rfl (ob_cons rfl (ob_cons ?_ (ob_cons rfl (ob_cons ?_ (ob_cons rfl (ob_cons ?_ (ob_cons ?_ (ob_cons ?_ (ob_cons rfl (ob_cons (Nat.le_refl _) (ob_cons (.inl ⟨rfl, rfl⟩) (ob_cons rfl (ob_cons (Nat.le_refl _) (ob_cons (.inl ⟨rfl, rfl⟩) (ob_cons h4 (ob_cons h3 (ob_cons h2 (ob_cons ?_ (ob_cons ?_ (ob_cons h1 ob_nil))))))))))))))))))))))))))) ⟨by omega, hyes⟩ (by show m - (ii + 1) < m - ii; omega)
          ·
            first | exact wrap_nat64 _ (by simp; omega) (by simp; omega) | exact hn.symm | exact hn | (rw [hn]; rfl) | (rw [hn]; exact Nat.le_refl _) | (intro k; rw [hMM]; rfl) | exact one_rowsN (z := listRow 6 _) hn hE0
          ·
            first | rfl | exact hn.symm | exact hn | (rw [hn]; rfl) | (rw [hn]; exact Nat.le_refl _) | (intro k; rw [hMM]; rfl) | exact one_rowsN (z := listRow 6 _) hn hE0
          ·
            first | rfl | exact hn.symm | exact hn | (rw [hn]; rfl) | (rw [hn]; exact Nat.le_refl _) | (intro k; rw [hMM]; rfl) | exact one_rowsN (z := listRow 6 _) hn hE0
          ·
            first | exact fun _ => rfl | exact hn.symm | exact hn | (rw [hn]; rfl) | (rw [hn]; exact Nat.le_refl _) | (intro k; rw [hMM]; rfl) | exact one_rowsN (z := listRow 6 _) hn hE0
          ·
            first | exact fun _ => rfl | exact hn.symm | exact hn | (rw [hn]; rfl) | (rw [hn]; exact Nat.le_refl _) | (intro k; rw [hMM]; rfl) | exact one_rowsN (z := listRow 6 _) hn hE0
          ·
            first | (apply Nat.ble_eq_true_of_le; omega) | (simp [Nat.blt_eq]; omega) | exact hn.symm | exact hn | (rw [hn]; rfl) | (rw [hn]; exact Nat.le_refl _) | (intro k; rw [hMM]; rfl) | exact one_rowsN (z := listRow 6 _) hn hE0
          ·
            first | (apply Nat.ble_eq_true_of_le; omega) | (simp [Nat.blt_eq]; omega) | exact hn.symm | exact hn | (rw [hn]; rfl) | (rw [hn]; exact Nat.le_refl _) | (intro k; rw [hMM]; rfl) | exact one_rowsN (z := listRow 6 _) hn hE0
      | false =>
        have g3 := of_decide_eq_false h3
        try simp only [Int.ofNat_eq_natCast, ge_iff_le, gt_iff_lt, Int.not_lt, Int.not_le] at g3
        have hc : addE (fun _ => none) (inE f ii) = 1 := by (dsimp only [addE, c1, c2, c3, c4, inE, entOf]; (try rw [h1]); (try rw [h2]); (try rw [h3]))
        have hno : (lsN (inE f) (ii + 1)).n = 0 := by (show addN _ _ _ = 0; rw [hp, hM]; exact addN_f (by rw [hc]; rfl))
        refine round_norm (s0 := paU m q f g) (T := paT m q f g) (i := .a ii) (.a (ii + 1)) (pa_3 m q f g 0 (fun _ => ent0) (fun _ => none) ii) (ob_cons rfl (ob_cons rfl (ob_cons rfl (ob_cons rfl (ob_cons rfl (ob_cons rfl (ob_cons rfl (ob_cons rfl (ob_cons ?_ (ob_cons rfl (ob_cons (Nat.le_refl _) (ob_cons (.inl ⟨rfl, rfl⟩) (ob_cons rfl (ob_cons (Nat.le_refl _) (ob_cons (.inl ⟨rfl, rfl⟩) (ob_cons h3 (ob_cons h2 (ob_cons ?_ (ob_cons ?_ (ob_cons h1 ob_nil)))))))))))))))))))) ⟨by omega, hno⟩ (by show m - (ii + 1) < m - ii; omega)
        ·
          first | exact wrap_nat64 _ (by simp; omega) (by simp; omega) | exact hn.symm | exact hn | (rw [hn]; rfl) | (rw [hn]; exact Nat.le_refl _) | (intro k; rw [hMM]; rfl) | exact one_rowsN (z := listRow 6 _) hn hE0
        ·
          first | (apply Nat.ble_eq_true_of_le; omega) | (simp [Nat.blt_eq]; omega) | exact hn.symm | exact hn | (rw [hn]; rfl) | (rw [hn]; exact Nat.le_refl _) | (intro k; rw [hMM]; rfl) | exact one_rowsN (z := listRow 6 _) hn hE0
        ·
          first | (apply Nat.ble_eq_true_of_le; omega) | (simp [Nat.blt_eq]; omega) | exact hn.symm | exact hn | (rw [hn]; rfl) | (rw [hn]; exact Nat.le_refl _) | (intro k; rw [hMM]; rfl) | exact one_rowsN (z := listRow 6 _) hn hE0
    | false =>
      have hc : addE (fun _ => none) (inE f ii) = 1 := by (dsimp only [addE, c1, c2, c3, c4, inE, entOf]; (try rw [h1]); (try rw [h2]))
      have hno : (lsN (inE f) (ii + 1)).n = 0 := by (show addN _ _ _ = 0; rw [hp, hM]; exact addN_f (by rw [hc]; rfl))
      refine round_norm (s0 := paU m q f g) (T := paT m q f g) (i := .a ii) (.a (ii + 1)) (pa_4 m q f g 0 (fun _ => ent0) (fun _ => none) ii) (ob_cons rfl (ob_cons rfl (ob_cons rfl (ob_cons rfl (ob_cons rfl (ob_cons rfl (ob_cons rfl (ob_cons rfl (ob_cons ?_ (ob_cons rfl (ob_cons (Nat.le_refl _) (ob_cons (.inl ⟨rfl, rfl⟩) (ob_cons rfl (ob_cons (Nat.le_refl _) (ob_cons (.inl ⟨rfl, rfl⟩) (ob_cons h2 (ob_cons ?_ (ob_cons ?_ (ob_cons h1 ob_nil))))))))))))))))))) ⟨by omega, hno⟩ (by show m - (ii + 1) < m - ii; omega)
      ·
        first | exact wrap_nat64 _ (by simp; omega) (by simp; omega) | exact hn.symm | exact hn | (rw [hn]; rfl) | (rw [hn]; exact Nat.le_refl _) | (intro k; rw [hMM]; rfl) | exact one_rowsN (z := listRow 6 _) hn hE0
      ·
        first | (apply Nat.ble_eq_true_of_le; omega) | (simp [Nat.blt_eq]; omega) | exact hn.symm | exact hn | (rw [hn]; rfl) | (rw [hn]; exact Nat.le_refl _) | (intro k; rw [hMM]; rfl) | exact one_rowsN (z := listRow 6 _) hn hE0
      ·
        first | (apply Nat.ble_eq_true_of_le; omega) | (simp [Nat.blt_eq]; omega) | exact hn.symm | exact hn | (rw [hn]; rfl) | (rw [hn]; exact Nat.le_refl _) | (intro k; rw [hMM]; rfl) | exact one_rowsN (z := listRow 6 _) hn hE0
  | false =>
    have g1 := of_decide_eq_false h1
    try simp only [Int.ofNat_eq_natCast, ge_iff_le, gt_iff_lt, Int.not_lt, Int.not_le] at g1
    obtain rfl : ii = m := by omega
    rw [hs rfl]
    refine round_exit (s0 := paU ii q f g) (T := paT ii q f g) (i := .a ii) (pa_5 ii q f g 0 (fun _ => ent0) (fun _ => none) ii) (by simp) (ob_cons rfl (ob_cons rfl (ob_cons rfl (ob_cons rfl (ob_cons rfl (ob_cons rfl (ob_cons rfl (ob_cons rfl (ob_cons rfl (ob_cons (Nat.le_refl _) (ob_cons (.inl ⟨rfl, rfl⟩) (ob_cons rfl (ob_cons (Nat.le_refl _) (ob_cons (.inl ⟨rfl, rfl⟩) (ob_cons h1 ob_nil)))))))))))))))
theorem pa_in (ok : I2 → Prop) (h : ok (.a 0)) : ∃ i mm ob, ok i ∧ castSt (paU m q f g).hp mm (paU m q f g) (paT m q f g i) = some ob ∧ ∀ p ∈ ob, p := by
  have key := pai_1 m q f g
  refine ⟨.a 0, [], _, h, pai_1 .., (ob_cons rfl (ob_cons rfl (ob_cons rfl (ob_cons rfl (ob_cons rfl (ob_cons rfl (ob_cons rfl (ob_cons rfl (ob_cons rfl (ob_cons rfl (ob_cons (Nat.le_refl _) (ob_cons (.inl ⟨rfl, rfl⟩) (ob_cons rfl (ob_cons (Nat.le_refl _) (ob_cons (.inl ⟨rfl, rfl⟩) ob_nil)))))))))))))))⟩
theorem pa_lpB (hm : m ≤ 100) (h : 0 < (lsN (inE f) m).n) : paLB m q f g (lsN (inE f) m).n (lsN (inE f) m).E (lsN (inE f) m).M := by
  refine loop_rule ERp_ok (I := I2) (paT m q f g) (pamu m) (paok m f) (pa_in m q f g _ ⟨Nat.zero_le _, rfl⟩) (fun i hi => ?_)
  cases i with
    | a ii => exact pa_roundA m q f g hm ii hi.1 hi.2 _ (fun e => by subst e; have := hi.2; omega)
    | b ii => exact pa_roundB m q f g hm ii hi.1 hi.2
theorem pa_lpA (hm : m ≤ 100) (h : (lsN (inE f) m).n = 0) : paLA m q f g := by
  refine loop_rule ERp_ok (I := I2) (paT m q f g) (pamu m) (fun i => match i with | .a i => i ≤ m | .b i => False) (pa_in m q f g _ (Nat.zero_le _)) (fun i hi => ?_)
  cases i with
    | a ii =>
      have hz : ∀ k, k ≤ m → (lsN (inE f) k).n = 0 := fun k hk => by have := lsN_mono (inE f) hk; omega
      have hr := pa_roundA m q f g hm ii hi (hz ii hi) (paXA m q f g) (fun _ => rfl)
      obtain ⟨fuel, hints, e, s', x1, x2, x3⟩ := hr
      refine ⟨fuel, hints, e, s', x1, x2, ?_⟩
      rcases x3 with ⟨y1, j, mm, ob, y2, y3, y4, y5⟩ | y
      · cases j with
        | a jj => exact .inl ⟨y1, .a jj, mm, ob, y2.1, y3, y4, y5⟩
        | b jj => have := hz jj y2.1; have := y2.2; omega
      · exact .inr y
    | b ii => exact hi.elim
end

end Go.Proofs.Ytmlfmmnnbdlabaa
