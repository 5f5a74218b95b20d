/-
  RetiresOnce's first loop.
-/
import Derived.Test.YtnecknppajbcdaaROnceDef
set_option linter.unusedSimpArgs false
set_option linter.unusedVariables false
namespace Go.Proofs.Ytnecknppajbcdaa
open Go.Ev
section
variable (m : Nat) (f : Nat → Nat → AV) (a b : Int)
noncomputable def o1T : I2 → St
  | .a i => o1A m f a b i
  | .b i => o1B m f a b (lsN (inE f) i).n (lsN (inE f) i).E (lsN (inE f) i).M i
def o1ok : I2 → Prop
  | .a i => i ≤ m ∧ (lsN (inE f) i).n = 0
  | .b i => i ≤ m ∧ 0 < (lsN (inE f) i).n
def o1mu : I2 → Nat
  | .a i => m - i
  | .b i => m - i
theorem oB_1 (n : Nat) (E : Nat → Ent) (M : List Int → Option Int) (ii : Nat) : roundB EB 2000 lcO1 ((o1U m f a b).hp) [(3, Src.nm 5), (4, Src.nm 4)] (o1B m f a b n E M ii) [Hint.b true, Hint.b true] (o1B m f a b (addN n M (inE f ii)) (addF n E (inE f ii)) (addM M (inE f ii)) (ii + 1)) =
 some (Ex.norm, [(0 : Nat) = 0,
 m = m,
 (none : Option Nat) = none,
 a = a,
 b = b,
 (0 : Nat) = 0,
 (0 : Nat) = 0,
 IntKind.i64.wrap (Int.ofNat n + 1) = Int.ofNat (addN n M (inE f ii)),
 IntKind.i64.wrap (Int.ofNat ii + 1) = Int.ofNat (ii + 1),
 (0 : Nat) = 0,
 addN n M { slot := avInt (f (0 + ii) 0), gen := avInt (f (0 + ii) 1), mark := avBool (f (0 + ii) 2), birth := avInt (f (0 + ii) 3), epoch := avInt (f (0 + ii) 4), era := avInt (f (0 + ii) 5) } = addN n M (inE f ii),
 (none : Option Nat) = none,
 false = false,
 addN n M (inE f ii) ≤ addN n M { slot := avInt (f (0 + ii) 0), gen := avInt (f (0 + ii) 1), mark := avBool (f (0 + ii) 2), birth := avInt (f (0 + ii) 3), epoch := avInt (f (0 + ii) 4), era := avInt (f (0 + ii) 5) },
 entF (addF n E (inE f ii)) = entF (addF n (fun i => entOf (entF E i)) { slot := avInt (f (0 + ii) 0), gen := avInt (f (0 + ii) 1), mark := avBool (f (0 + ii) 2), birth := avInt (f (0 + ii) 3), epoch := avInt (f (0 + ii) 4), era := avInt (f (0 + ii) 5) }) ∧ plainSh eSh = true ∨ ∀ (i : Nat), i < addN n M (inE f ii) → rowOb eSh 0 (entF (addF n (fun i => entOf (entF E i)) { slot := avInt (f (0 + ii) 0), gen := avInt (f (0 + ii) 1), mark := avBool (f (0 + ii) 2), birth := avInt (f (0 + ii) 3), epoch := avInt (f (0 + ii) 4), era := avInt (f (0 + ii) 5) }) i) (entF (addF n E (inE f ii)) i),
 ∀ (k : List Int), addM M { slot := avInt (f (0 + ii) 0), gen := avInt (f (0 + ii) 1), mark := avBool (f (0 + ii) 2), birth := avInt (f (0 + ii) 3), epoch := avInt (f (0 + ii) 4), era := avInt (f (0 + ii) 5) } k = addM M (inE f ii) k,
 true = true,
 m ≤ m,
 f = f ∧ plainSh eSh = true ∨ ∀ (i : Nat), i < m → rowOb eSh 0 (f i) (f i),
 (addE M { slot := avInt (f (0 + ii) 0), gen := avInt (f (0 + ii) 1), mark := avBool (f (0 + ii) 2), birth := avInt (f (0 + ii) 3), epoch := avInt (f (0 + ii) 4), era := avInt (f (0 + ii) 5) } == 0) = true,
 n ≤ n,
 n ≤ 1000000,
 (0 + ii).blt m = true,
 (ii.blt m && decide (0 ≤ Int.ofNat ii)) = true,
 decide (Int.ofNat ii < Int.ofNat m) = true]) := by kernel_rfl
theorem oB_2 (n : Nat) (E : Nat → Ent) (M : List Int → Option Int) (ii : Nat) : roundB EB 2000 lcO1 ((o1U m f a b).hp) [(3, Src.nm 5), (4, Src.nm 4)] (o1B m f a b n E M ii) [Hint.b true, Hint.b false] (o1B m f a b (addN n M (inE f ii)) (addF n E (inE f ii)) (addM M (inE f ii)) (ii + 1)) =
 some (Ex.norm, [(0 : Nat) = 0,
 m = m,
 (none : Option Nat) = none,
 a = a,
 b = b,
 (0 : Nat) = 0,
 (0 : Nat) = 0,
 Int.ofNat n = Int.ofNat (addN n M (inE f ii)),
 IntKind.i64.wrap (Int.ofNat ii + 1) = Int.ofNat (ii + 1),
 (0 : Nat) = 0,
 addN n M { slot := avInt (f (0 + ii) 0), gen := avInt (f (0 + ii) 1), mark := avBool (f (0 + ii) 2), birth := avInt (f (0 + ii) 3), epoch := avInt (f (0 + ii) 4), era := avInt (f (0 + ii) 5) } = addN n M (inE f ii),
 (none : Option Nat) = none,
 false = false,
 addN n M (inE f ii) ≤ addN n M { slot := avInt (f (0 + ii) 0), gen := avInt (f (0 + ii) 1), mark := avBool (f (0 + ii) 2), birth := avInt (f (0 + ii) 3), epoch := avInt (f (0 + ii) 4), era := avInt (f (0 + ii) 5) },
 entF (addF n E (inE f ii)) = entF (addF n (fun i => entOf (entF E i)) { slot := avInt (f (0 + ii) 0), gen := avInt (f (0 + ii) 1), mark := avBool (f (0 + ii) 2), birth := avInt (f (0 + ii) 3), epoch := avInt (f (0 + ii) 4), era := avInt (f (0 + ii) 5) }) ∧ plainSh eSh = true ∨ ∀ (i : Nat), i < addN n M (inE f ii) → rowOb eSh 0 (entF (addF n (fun i => entOf (entF E i)) { slot := avInt (f (0 + ii) 0), gen := avInt (f (0 + ii) 1), mark := avBool (f (0 + ii) 2), birth := avInt (f (0 + ii) 3), epoch := avInt (f (0 + ii) 4), era := avInt (f (0 + ii) 5) }) i) (entF (addF n E (inE f ii)) i),
 ∀ (k : List Int), addM M { slot := avInt (f (0 + ii) 0), gen := avInt (f (0 + ii) 1), mark := avBool (f (0 + ii) 2), birth := avInt (f (0 + ii) 3), epoch := avInt (f (0 + ii) 4), era := avInt (f (0 + ii) 5) } k = addM M (inE f ii) k,
 true = true,
 m ≤ m,
 f = f ∧ plainSh eSh = true ∨ ∀ (i : Nat), i < m → rowOb eSh 0 (f i) (f i),
 (addE M { slot := avInt (f (0 + ii) 0), gen := avInt (f (0 + ii) 1), mark := avBool (f (0 + ii) 2), birth := avInt (f (0 + ii) 3), epoch := avInt (f (0 + ii) 4), era := avInt (f (0 + ii) 5) } == 0) = false,
 n ≤ n,
 n ≤ 1000000,
 (0 + ii).blt m = true,
 (ii.blt m && decide (0 ≤ Int.ofNat ii)) = true,
 decide (Int.ofNat ii < Int.ofNat m) = true]) := by kernel_rfl
theorem oB_3 (n : Nat) (E : Nat → Ent) (M : List Int → Option Int) (ii : Nat) : roundB EB 2000 lcO1 ((o1U m f a b).hp) [(3, Src.nm 3), (4, Src.nm 4)] (o1B m f a b n E M ii) [Hint.b false] (o1SB m f a b n E M) =
 some (Ex.exit 0, [(0 : Nat) = 0,
 m = m,
 (none : Option Nat) = none,
 a = a,
 b = b,
 (0 : Nat) = 0,
 (0 : Nat) = 0,
 Int.ofNat n = Int.ofNat n,
 (0 : Nat) = 0,
 n = n,
 (none : Option Nat) = none,
 false = false,
 n ≤ n,
 entF E = entF E ∧ plainSh eSh = true ∨ ∀ (i : Nat), i < n → rowOb eSh 0 (entF E i) (entF E i),
 ∀ (k : List Int), M k = M k,
 true = true,
 m ≤ m,
 f = f ∧ plainSh eSh = true ∨ ∀ (i : Nat), i < m → rowOb eSh 0 (f i) (f i),
 decide (Int.ofNat ii < Int.ofNat m) = false]) := by kernel_rfl
theorem oA_1 (n : Nat) (E : Nat → Ent) (M : List Int → Option Int) (ii : Nat) : roundB EB 2000 lcO1 ((o1U m f a b).hp) [] (o1A m f a b ii) [Hint.b true, Hint.b true, Hint.b true, Hint.b true] (o1A m f a b (ii + 1)) =
 some (Ex.norm, [(0 : Nat) = 0,
 m = m,
 (none : Option Nat) = none,
 a = a,
 b = b,
 (0 : Nat) = 0,
 (0 : Nat) = 0,
 IntKind.i64.wrap (Int.ofNat ii + 1) = Int.ofNat (ii + 1),
 true = true,
 m ≤ m,
 f = f ∧ plainSh eSh = true ∨ ∀ (i : Nat), i < m → rowOb eSh 0 (f i) (f i),
 (!decide (avInt (f (0 + ii) 0) < 256)) = true,
 decide (avInt (f (0 + ii) 0) ≥ 0) = true,
 (and2 (avInt (f (0 + ii) 0) == avInt (f (0 + ii) 0)) (and2 (avInt (f (0 + ii) 1) == avInt (f (0 + ii) 1)) (and2 (avBool (f (0 + ii) 2) == false) true)) == true) = true,
 (0 + ii).blt m = true,
 (ii.blt m && decide (0 ≤ Int.ofNat ii)) = true,
 decide (Int.ofNat ii < Int.ofNat m) = true]) := by kernel_rfl
theorem oA_2 (n : Nat) (E : Nat → Ent) (M : List Int → Option Int) (ii : Nat) : roundB EB 2000 lcO1 ((o1U m f a b).hp) [(3, Src.nm 4704952713861037901731138301631313894730901873571445199306628680956271979111974199798823723819869319322995822092669839567565867428952907743035689795581), (4, Src.nm 1841282216941579801882419204465524523121861150899223944084351394554075260477629437121839426933321088397373759821752539942684706807060533592497296769020)] (o1A m f a b ii) [Hint.b true, Hint.b true, Hint.b true, Hint.b false] (o1B m f a b n E M (ii + 1)) =
 some (Ex.norm, [(0 : Nat) = 0,
 m = m,
 (none : Option Nat) = none,
 a = a,
 b = b,
 (0 : Nat) = 0,
 (0 : Nat) = 0,
 1 = Int.ofNat n,
 IntKind.i64.wrap (Int.ofNat ii + 1) = Int.ofNat (ii + 1),
 (0 : Nat) = 0,
 1 = n,
 (none : Option Nat) = none,
 n = 1,
 ∀ (i : Nat), i < n → rowOb eSh 0 (listRow 6 ([] ++ [AV.sym IntKind.i64 (avInt (f (0 + ii) 0)), AV.sym IntKind.u32 (avInt (f (0 + ii) 1)), AV.symb (avBool (f (0 + ii) 2)), AV.sym IntKind.u64 (avInt (f (0 + ii) 3)), AV.sym IntKind.u64 (avInt (f (0 + ii) 4)), AV.sym IntKind.u64 (avInt (f (0 + ii) 5))]) i) (entF E i),
 ∀ (k : List Int), setKey (fun x => none) [avInt (f (0 + ii) 0), avInt (f (0 + ii) 1), if avBool (f (0 + ii) 2) = true then 1 else 0] (some 1) k = M k,
 true = true,
 m ≤ m,
 f = f ∧ plainSh eSh = true ∨ ∀ (i : Nat), i < m → rowOb eSh 0 (f i) (f i),
 (!decide (avInt (f (0 + ii) 0) < 256)) = false,
 decide (avInt (f (0 + ii) 0) ≥ 0) = true,
 (and2 (avInt (f (0 + ii) 0) == avInt (f (0 + ii) 0)) (and2 (avInt (f (0 + ii) 1) == avInt (f (0 + ii) 1)) (and2 (avBool (f (0 + ii) 2) == false) true)) == true) = true,
 (0 + ii).blt m = true,
 (ii.blt m && decide (0 ≤ Int.ofNat ii)) = true,
 decide (Int.ofNat ii < Int.ofNat m) = true]) := by kernel_rfl
theorem oA_3 (n : Nat) (E : Nat → Ent) (M : List Int → Option Int) (ii : Nat) : roundB EB 2000 lcO1 ((o1U m f a b).hp) [] (o1A m f a b ii) [Hint.b true, Hint.b true, Hint.b false] (o1A m f a b (ii + 1)) =
 some (Ex.norm, [(0 : Nat) = 0,
 m = m,
 (none : Option Nat) = none,
 a = a,
 b = b,
 (0 : Nat) = 0,
 (0 : Nat) = 0,
 IntKind.i64.wrap (Int.ofNat ii + 1) = Int.ofNat (ii + 1),
 true = true,
 m ≤ m,
 f = f ∧ plainSh eSh = true ∨ ∀ (i : Nat), i < m → rowOb eSh 0 (f i) (f i),
 decide (avInt (f (0 + ii) 0) ≥ 0) = false,
 (and2 (avInt (f (0 + ii) 0) == avInt (f (0 + ii) 0)) (and2 (avInt (f (0 + ii) 1) == avInt (f (0 + ii) 1)) (and2 (avBool (f (0 + ii) 2) == false) true)) == true) = true,
 (0 + ii).blt m = true,
 (ii.blt m && decide (0 ≤ Int.ofNat ii)) = true,
 decide (Int.ofNat ii < Int.ofNat m) = true]) := by kernel_rfl
theorem oA_4 (n : Nat) (E : Nat → Ent) (M : List Int → Option Int) (ii : Nat) : roundB EB 2000 lcO1 ((o1U m f a b).hp) [] (o1A m f a b ii) [Hint.b true, Hint.b false] (o1A m f a b (ii + 1)) =
 some (Ex.norm, [(0 : Nat) = 0,
 m = m,
 (none : Option Nat) = none,
 a = a,
 b = b,
 (0 : Nat) = 0,
 (0 : Nat) = 0,
 IntKind.i64.wrap (Int.ofNat ii + 1) = Int.ofNat (ii + 1),
 true = true,
 m ≤ m,
 f = f ∧ plainSh eSh = true ∨ ∀ (i : Nat), i < m → rowOb eSh 0 (f i) (f i),
 (and2 (avInt (f (0 + ii) 0) == avInt (f (0 + ii) 0)) (and2 (avInt (f (0 + ii) 1) == avInt (f (0 + ii) 1)) (and2 (avBool (f (0 + ii) 2) == false) true)) == true) = false,
 (0 + ii).blt m = true,
 (ii.blt m && decide (0 ≤ Int.ofNat ii)) = true,
 decide (Int.ofNat ii < Int.ofNat m) = true]) := by kernel_rfl
theorem oA_5 (n : Nat) (E : Nat → Ent) (M : List Int → Option Int) (ii : Nat) : roundB EB 2000 lcO1 ((o1U m f a b).hp) [] (o1A m f a b ii) [Hint.b false] (o1SA m f a b) =
 some (Ex.exit 0, [(0 : Nat) = 0,
 m = m,
 (none : Option Nat) = none,
 a = a,
 b = b,
 (0 : Nat) = 0,
 (0 : Nat) = 0,
 true = true,
 m ≤ m,
 f = f ∧ plainSh eSh = true ∨ ∀ (i : Nat), i < m → rowOb eSh 0 (f i) (f i),
 decide (Int.ofNat ii < Int.ofNat m) = false]) := by kernel_rfl
theorem o1_roundB (hm : m ≤ 100) (ii : Nat) (hi : ii ≤ m) (hp : 0 < (lsN (inE f) ii).n) : RoundOk EB lcO1 (o1U m f a b) (.exit 0) (o1SB m f a b (lsN (inE f) m).n (lsN (inE f) m).E (lsN (inE f) m).M) (o1T m f a b) (o1mu m) (o1ok m f) (.b ii) := by
  have hn := lsN_le (inE f) ii
  have hn100 : (lsN (inE f) ii).n ≤ 1000000 := by omega
  have hpos : 0 < (lsN (inE f) (ii + 1)).n := Nat.lt_of_lt_of_le hp (addN_ge _ _ _)
  cases h1 : (decide (Int.ofNat ii < Int.ofNat m)) with
  | true =>
    have g1 := of_decide_eq_true h1
    try simp only [Int.ofNat_eq_natCast, ge_iff_le, gt_iff_lt, Int.not_lt, Int.not_le] at g1
    cases h2 : (addE (lsN (inE f) ii).M     { slot := avInt (f (0 + ii) 0), gen := avInt (f (0 + ii) 1), mark := avBool (f (0 + ii) 2),       birth := avInt (f (0 + ii) 3), epoch := avInt (f (0 + ii) 4), era := avInt (f (0 + ii) 5) } ==   0) with
    | true =>
      refine round_norm (s0 := o1U m f a b) (T := o1T m f a b) (i := .b ii) (.b (ii + 1)) (oB_1 ..) (ob_cons rfl (ob_cons rfl (ob_cons rfl (ob_cons rfl (ob_cons rfl (ob_cons rfl (ob_cons rfl (ob_cons ?_ (ob_cons ?_ (ob_cons rfl (ob_cons ?_ (ob_cons rfl (ob_cons rfl (ob_cons ?_ (ob_cons ?_ (ob_cons ?_ (ob_cons rfl (ob_cons (Nat.le_refl _) (ob_cons (.inl ⟨rfl, rfl⟩) (ob_cons h2 (ob_cons (Nat.le_refl _) (ob_cons ?_ (ob_cons ?_ (ob_cons ?_ (ob_cons h1 ob_nil))))))))))))))))))))))))) ⟨by omega, hpos⟩ (by show m - (ii + 1) < m - ii; omega)
      · -- IntKind.i64.wrap (Int.ofNat (lsN (inE f) ii).n + 1) = Int.ofNat (addN (lsN (inE f) ii).n (lsN (inE f) ii).M (inE f ii))
        first | exact wrap_nat64 _ (by simp; omega) (by simp; omega) | exact wrap_add h2 hn100 | exact wrap_no h2
      · -- IntKind.i64.wrap (Int.ofNat ii + 1) = Int.ofNat (ii + 1)
        first | exact wrap_nat64 _ (by simp; omega) (by simp; omega) | exact wrap_add h2 hn100 | exact wrap_no h2
      · -- addN (lsN (inE f) ii).n (lsN (inE f) ii).M     { slot := avInt (f (0 + ii) 0), gen := avInt (f (0 + ii) 1), mark := avBool (f (0 + ii) 2),       birth := avInt (f (0 + ii) 3), epoch := avInt (f (0 + ii) 4), era := avInt (f (0 + ii) 5) } =   addN (lsN (inE f) ii).n (lsN (inE f) ii).M (inE f ii)
        first | rfl | exact wrap_add h2 hn100 | exact wrap_no h2
      · -- addN (lsN (inE f) ii).n (lsN (inE f) ii).M (inE f ii) ≤   addN (lsN (inE f) ii).n (lsN (inE f) ii).M     { slot := avInt (f (0 + ii) 0), gen := avInt (f (0 + ii) 1), mark := avBool (f (0 + ii) 2),       birth := avInt (f (0 + ii) 3), epoch := avInt (f (0 + ii) 4), era := avInt (f (0 + ii) 5) }
        first | exact Nat.le_refl _ | omega | exact wrap_add h2 hn100 | exact wrap_no h2
      · -- entF (addF (lsN (inE f) ii).n E (inE f ii)) =       entF         (addF (lsN (inE f) ii).n (fun i => entOf (entF E i))           { slot := avInt (f (0 + ii) 0), gen := avInt (f (0 + ii) 1), mark := avBool (f (0 + ii) 2),             birth := avInt (f (0 + ii) 3), epoch := avInt (f (0 + ii) 4), era := avInt (f (0 + ii) 5) }) ∧     plainSh eSh = true ∨   ∀ (i : Nat),     i < addN (lsN (inE f) ii).n (lsN (inE f) ii).M (inE f ii) →       rowOb eSh 0         (entF           (addF (lsN (inE f) ii).n (fun i => entOf (entF E i))             { slot := avInt (f (0 + ii) 0), gen := avInt (f (0 + ii) 1), mark := avBool (f (0 + ii) 2),               birth := avInt (f (0 + ii) 3), epoch := avInt (f (0 + ii) 4), era := avInt (f (0 + ii) 5) })           i)         (entF (addF (lsN (inE f) ii).n E (inE f ii)) i)
        first | exact .inl ⟨rfl, rfl⟩ | exact wrap_add h2 hn100 | exact wrap_no h2
      · -- ∀ (k : List Int),   addM (lsN (inE f) ii).M       { slot := avInt (f (0 + ii) 0), gen := avInt (f (0 + ii) 1), mark := avBool (f (0 + ii) 2),         birth := avInt (f (0 + ii) 3), epoch := avInt (f (0 + ii) 4), era := avInt (f (0 + ii) 5) }       k =     addM (lsN (inE f) ii).M (inE f ii) k
        first | exact fun _ => rfl | exact wrap_add h2 hn100 | exact wrap_no h2
      · -- (lsN (inE f) ii).n ≤ 1000000
        first | exact Nat.le_refl _ | omega | exact wrap_add h2 hn100 | exact wrap_no h2
      · -- (0 + ii).blt m = true
        first | (apply Nat.ble_eq_true_of_le; omega) | (simp [Nat.blt_eq]; omega) | exact wrap_add h2 hn100 | exact wrap_no h2
      · -- (ii.blt m && decide (0 ≤ Int.ofNat ii)) = true
        first | (apply Nat.ble_eq_true_of_le; omega) | (simp [Nat.blt_eq]; omega) | exact wrap_add h2 hn100 | exact wrap_no h2
    | false =>
      refine round_norm (s0 := o1U m f a b) (T := o1T m f a b) (i := .b ii) (.b (ii + 1)) (oB_2 ..) (ob_cons rfl (ob_cons rfl (ob_cons rfl (ob_cons rfl (ob_cons rfl (ob_cons rfl (ob_cons rfl (ob_cons ?_ (ob_cons ?_ (ob_cons rfl (ob_cons ?_ (ob_cons rfl (ob_cons rfl (ob_cons ?_ (ob_cons ?_ (ob_cons ?_ (ob_cons rfl (ob_cons (Nat.le_refl _) (ob_cons (.inl ⟨rfl, rfl⟩) (ob_cons h2 (ob_cons (Nat.le_refl _) (ob_cons ?_ (ob_cons ?_ (ob_cons ?_ (ob_cons h1 ob_nil))))))))))))))))))))))))) ⟨by omega, hpos⟩ (by show m - (ii + 1) < m - ii; omega)
      · -- Int.ofNat (lsN (inE f) ii).n = Int.ofNat (addN (lsN (inE f) ii).n (lsN (inE f) ii).M (inE f ii))
        first | rfl | exact wrap_add h2 hn100 | exact wrap_no h2
      · -- IntKind.i64.wrap (Int.ofNat ii + 1) = Int.ofNat (ii + 1)
        first | exact wrap_nat64 _ (by simp; omega) (by simp; omega) | exact wrap_add h2 hn100 | exact wrap_no h2
      · -- addN (lsN (inE f) ii).n (lsN (inE f) ii).M     { slot := avInt (f (0 + ii) 0), gen := avInt (f (0 + ii) 1), mark := avBool (f (0 + ii) 2),       birth := avInt (f (0 + ii) 3), epoch := avInt (f (0 + ii) 4), era := avInt (f (0 + ii) 5) } =   addN (lsN (inE f) ii).n (lsN (inE f) ii).M (inE f ii)
        first | rfl | exact wrap_add h2 hn100 | exact wrap_no h2
      · -- addN (lsN (inE f) ii).n (lsN (inE f) ii).M (inE f ii) ≤   addN (lsN (inE f) ii).n (lsN (inE f) ii).M     { slot := avInt (f (0 + ii) 0), gen := avInt (f (0 + ii) 1), mark := avBool (f (0 + ii) 2),       birth := avInt (f (0 + ii) 3), epoch := avInt (f (0 + ii) 4), era := avInt (f (0 + ii) 5) }
        first | exact Nat.le_refl _ | omega | exact wrap_add h2 hn100 | exact wrap_no h2
      · -- entF (addF (lsN (inE f) ii).n E (inE f ii)) =       entF         (addF (lsN (inE f) ii).n (fun i => entOf (entF E i))           { slot := avInt (f (0 + ii) 0), gen := avInt (f (0 + ii) 1), mark := avBool (f (0 + ii) 2),             birth := avInt (f (0 + ii) 3), epoch := avInt (f (0 + ii) 4), era := avInt (f (0 + ii) 5) }) ∧     plainSh eSh = true ∨   ∀ (i : Nat),     i < addN (lsN (inE f) ii).n (lsN (inE f) ii).M (inE f ii) →       rowOb eSh 0         (entF           (addF (lsN (inE f) ii).n (fun i => entOf (entF E i))             { slot := avInt (f (0 + ii) 0), gen := avInt (f (0 + ii) 1), mark := avBool (f (0 + ii) 2),               birth := avInt (f (0 + ii) 3), epoch := avInt (f (0 + ii) 4), era := avInt (f (0 + ii) 5) })           i)         (entF (addF (lsN (inE f) ii).n E (inE f ii)) i)
        first | exact .inl ⟨rfl, rfl⟩ | exact wrap_add h2 hn100 | exact wrap_no h2
      · -- ∀ (k : List Int),   addM (lsN (inE f) ii).M       { slot := avInt (f (0 + ii) 0), gen := avInt (f (0 + ii) 1), mark := avBool (f (0 + ii) 2),         birth := avInt (f (0 + ii) 3), epoch := avInt (f (0 + ii) 4), era := avInt (f (0 + ii) 5) }       k =     addM (lsN (inE f) ii).M (inE f ii) k
        first | exact fun _ => rfl | exact wrap_add h2 hn100 | exact wrap_no h2
      · -- (lsN (inE f) ii).n ≤ 1000000
        first | exact Nat.le_refl _ | omega | exact wrap_add h2 hn100 | exact wrap_no h2
      · -- (0 + ii).blt m = true
        first | (apply Nat.ble_eq_true_of_le; omega) | (simp [Nat.blt_eq]; omega) | exact wrap_add h2 hn100 | exact wrap_no h2
      · -- (ii.blt m && decide (0 ≤ Int.ofNat ii)) = true
        first | (apply Nat.ble_eq_true_of_le; omega) | (simp [Nat.blt_eq]; omega) | exact wrap_add h2 hn100 | exact wrap_no h2
  | false =>
    have g1 := of_decide_eq_false h1
    try simp only [Int.ofNat_eq_natCast, ge_iff_le, gt_iff_lt, Int.not_lt, Int.not_le] at g1
    obtain rfl : ii = m := by omega
    refine round_exit (s0 := o1U ii f a b) (T := o1T ii f a b) (i := .b ii) (oB_3 ..) (by simp) (ob_cons rfl (ob_cons rfl (ob_cons rfl (ob_cons rfl (ob_cons rfl (ob_cons rfl (ob_cons rfl (ob_cons rfl (ob_cons rfl (ob_cons rfl (ob_cons rfl (ob_cons rfl (ob_cons (Nat.le_refl _) (ob_cons (.inl ⟨rfl, rfl⟩) (ob_cons (fun _ => rfl) (ob_cons rfl (ob_cons (Nat.le_refl _) (ob_cons (.inl ⟨rfl, rfl⟩) (ob_cons h1 ob_nil)))))))))))))))))))
theorem o1_roundA (hm : m ≤ 100) (ii : Nat) (hi : ii ≤ m) (hp : (lsN (inE f) ii).n = 0) (s1 : St) (hs : ii = m → s1 = o1SA m f a b) : RoundOk EB lcO1 (o1U m f a b) (.exit 0) s1 (o1T m f a b) (o1mu m) (o1ok m f) (.a ii) := by
  have hM := lsN_zero (inE f) ii hp
  cases h1 : (decide (Int.ofNat ii < Int.ofNat m)) with
  | true =>
    have g1 := of_decide_eq_true h1
    try simp only [Int.ofNat_eq_natCast, ge_iff_le, gt_iff_lt, Int.not_lt, Int.not_le] at g1
    cases h2 : (and2 (avInt (f (0 + ii) 0) == avInt (f (0 + ii) 0))     (and2 (avInt (f (0 + ii) 1) == avInt (f (0 + ii) 1)) (and2 (avBool (f (0 + ii) 2) == false) true)) ==   true) with
    | true =>
      cases h3 : (decide (avInt (f (0 + ii) 0) ≥ 0)) with
      | true =>
        have g3 := of_decide_eq_true h3
        try simp only [Int.ofNat_eq_natCast, ge_iff_le, gt_iff_lt, Int.not_lt, Int.not_le] at g3
        cases h4 : (!decide (avInt (f (0 + ii) 0) < 256)) with
        | true =>
          have hc : addE (fun _ => none) (inE f ii) = 1 := by (dsimp only [addE, c1, c2, c3, c4, inE, entOf]; (try rw [h1]); (try rw [h2]); (try rw [h3]); (try rw [h4]))
          have hno : (lsN (inE f) (ii + 1)).n = 0 := by (show addN _ _ _ = 0; rw [hp, hM]; exact addN_f (by rw [hc]; rfl))
          refine round_norm (s0 := o1U m f a b) (T := o1T m f a b) (i := .a ii) (.a (ii + 1)) (oA_1 m f a b 0 (fun _ => ent0) (fun _ => none) ii) (ob_cons rfl (ob_cons rfl (ob_cons rfl (ob_cons rfl (ob_cons rfl (ob_cons rfl (ob_cons rfl (ob_cons ?_ (ob_cons rfl (ob_cons (Nat.le_refl _) (ob_cons (.inl ⟨rfl, rfl⟩) (ob_cons h4 (ob_cons h3 (ob_cons h2 (ob_cons ?_ (ob_cons ?_ (ob_cons h1 ob_nil))))))))))))))))) ⟨by omega, hno⟩ (by show m - (ii + 1) < m - ii; omega)
          · -- IntKind.i64.wrap (Int.ofNat ii + 1) = Int.ofNat (ii + 1)
            first | exact wrap_nat64 _ (by simp; omega) (by simp; omega) | exact hn.symm | exact hn | (rw [hn]; rfl) | (rw [hn]; exact Nat.le_refl _) | (intro k; rw [hMM]; rfl) | exact o1_row hp hn
          · -- (0 + ii).blt m = true
            first | (apply Nat.ble_eq_true_of_le; omega) | (simp [Nat.blt_eq]; omega) | exact hn.symm | exact hn | (rw [hn]; rfl) | (rw [hn]; exact Nat.le_refl _) | (intro k; rw [hMM]; rfl) | exact o1_row hp hn
          · -- (ii.blt m && decide (0 ≤ Int.ofNat ii)) = true
            first | (apply Nat.ble_eq_true_of_le; omega) | (simp [Nat.blt_eq]; omega) | exact hn.symm | exact hn | (rw [hn]; rfl) | (rw [hn]; exact Nat.le_refl _) | (intro k; rw [hMM]; rfl) | exact o1_row hp hn
        | false =>
          have hc : addE (fun _ => none) (inE f ii) = 0 := by (dsimp only [addE, c1, c2, c3, c4, inE, entOf]; (try rw [h1]); (try rw [h2]); (try rw [h3]); (try rw [h4]); rfl)
          have hn : (lsN (inE f) (ii + 1)).n = 1 := by (show addN _ _ _ = 1; rw [hp, hM]; exact addN_t (by rw [hc]; rfl))
          have hyes : 0 < (lsN (inE f) (ii + 1)).n := by omega
          have hMM := lsN_one (inE f) ii hp hc
          refine round_norm (s0 := o1U m f a b) (T := o1T m f a b) (i := .a ii) (.b (ii + 1)) (oA_2 ..) (ob_cons rfl (ob_cons rfl (ob_cons rfl (ob_cons rfl (ob_cons rfl (ob_cons rfl (ob_cons rfl (ob_cons ?_ (ob_cons ?_ (ob_cons rfl (ob_cons ?_ (ob_cons rfl (ob_cons ?_ (ob_cons ?_ (ob_cons ?_ (ob_cons rfl (ob_cons (Nat.le_refl _) (ob_cons (.inl ⟨rfl, rfl⟩) (ob_cons h4 (ob_cons h3 (ob_cons h2 (ob_cons ?_ (ob_cons ?_ (ob_cons h1 ob_nil)))))))))))))))))))))))) ⟨by omega, hyes⟩ (by show m - (ii + 1) < m - ii; omega)
          · -- 1 = Int.ofNat n
            first | rfl | exact hn.symm | exact hn | (rw [hn]; rfl) | (rw [hn]; exact Nat.le_refl _) | (intro k; rw [hMM]; rfl) | exact o1_row hp hn
          · -- IntKind.i64.wrap (Int.ofNat ii + 1) = Int.ofNat (ii + 1)
            first | exact wrap_nat64 _ (by simp; omega) (by simp; omega) | exact hn.symm | exact hn | (rw [hn]; rfl) | (rw [hn]; exact Nat.le_refl _) | (intro k; rw [hMM]; rfl) | exact o1_row hp hn
          · -- 1 = n
            first | rfl | exact hn.symm | exact hn | (rw [hn]; rfl) | (rw [hn]; exact Nat.le_refl _) | (intro k; rw [hMM]; rfl) | exact o1_row hp hn
          · -- n = 1
            first | rfl | exact hn.symm | exact hn | (rw [hn]; rfl) | (rw [hn]; exact Nat.le_refl _) | (intro k; rw [hMM]; rfl) | exact o1_row hp hn
          · -- ∀ (i : Nat),   i < n →     rowOb eSh 0       (listRow 6         ([] ++           [AV.sym IntKind.i64 (avInt (f (0 + ii) 0)), AV.sym IntKind.u32 (avInt (f (0 + ii) 1)),             AV.symb (avBool (f (0 + ii) 2)), AV.sym IntKind.u64 (avInt (f (0 + ii) 3)),             AV.sym IntKind.u64 (avInt (f (0 + ii) 4)), AV.sym IntKind.u64 (avInt (f (0 + ii) 5))])         i)       (entF E i)
            first | exact fun _ => rfl | exact hn.symm | exact hn | (rw [hn]; rfl) | (rw [hn]; exact Nat.le_refl _) | (intro k; rw [hMM]; rfl) | exact o1_row hp hn
          · -- ∀ (k : List Int),   setKey (fun x => none) [avInt (f (0 + ii) 0), avInt (f (0 + ii) 1), if avBool (f (0 + ii) 2) = true then 1 else 0]       (some 1) k =     M k
            first | exact fun _ => rfl | exact hn.symm | exact hn | (rw [hn]; rfl) | (rw [hn]; exact Nat.le_refl _) | (intro k; rw [hMM]; rfl) | exact o1_row hp hn
          · -- (0 + ii).blt m = true
            first | (apply Nat.ble_eq_true_of_le; omega) | (simp [Nat.blt_eq]; omega) | exact hn.symm | exact hn | (rw [hn]; rfl) | (rw [hn]; exact Nat.le_refl _) | (intro k; rw [hMM]; rfl) | exact o1_row hp hn
          · -- (ii.blt m && decide (0 ≤ Int.ofNat ii)) = true
            first | (apply Nat.ble_eq_true_of_le; omega) | (simp [Nat.blt_eq]; omega) | exact hn.symm | exact hn | (rw [hn]; rfl) | (rw [hn]; exact Nat.le_refl _) | (intro k; rw [hMM]; rfl) | exact o1_row hp hn
      | false =>
        have g3 := of_decide_eq_false h3
        try simp only [Int.ofNat_eq_natCast, ge_iff_le, gt_iff_lt, Int.not_lt, Int.not_le] at g3
        have hc : addE (fun _ => none) (inE f ii) = 1 := by (dsimp only [addE, c1, c2, c3, c4, inE, entOf]; (try rw [h1]); (try rw [h2]); (try rw [h3]))
        have hno : (lsN (inE f) (ii + 1)).n = 0 := by (show addN _ _ _ = 0; rw [hp, hM]; exact addN_f (by rw [hc]; rfl))
        refine round_norm (s0 := o1U m f a b) (T := o1T m f a b) (i := .a ii) (.a (ii + 1)) (oA_3 m f a b 0 (fun _ => ent0) (fun _ => none) ii) (ob_cons rfl (ob_cons rfl (ob_cons rfl (ob_cons rfl (ob_cons rfl (ob_cons rfl (ob_cons rfl (ob_cons ?_ (ob_cons rfl (ob_cons (Nat.le_refl _) (ob_cons (.inl ⟨rfl, rfl⟩) (ob_cons h3 (ob_cons h2 (ob_cons ?_ (ob_cons ?_ (ob_cons h1 ob_nil)))))))))))))))) ⟨by omega, hno⟩ (by show m - (ii + 1) < m - ii; omega)
        · -- IntKind.i64.wrap (Int.ofNat ii + 1) = Int.ofNat (ii + 1)
          first | exact wrap_nat64 _ (by simp; omega) (by simp; omega) | exact hn.symm | exact hn | (rw [hn]; rfl) | (rw [hn]; exact Nat.le_refl _) | (intro k; rw [hMM]; rfl) | exact o1_row hp hn
        · -- (0 + ii).blt m = true
          first | (apply Nat.ble_eq_true_of_le; omega) | (simp [Nat.blt_eq]; omega) | exact hn.symm | exact hn | (rw [hn]; rfl) | (rw [hn]; exact Nat.le_refl _) | (intro k; rw [hMM]; rfl) | exact o1_row hp hn
        · -- (ii.blt m && decide (0 ≤ Int.ofNat ii)) = true
          first | (apply Nat.ble_eq_true_of_le; omega) | (simp [Nat.blt_eq]; omega) | exact hn.symm | exact hn | (rw [hn]; rfl) | (rw [hn]; exact Nat.le_refl _) | (intro k; rw [hMM]; rfl) | exact o1_row hp hn
    | false =>
      have hc : addE (fun _ => none) (inE f ii) = 1 := by (dsimp only [addE, c1, c2, c3, c4, inE, entOf]; (try rw [h1]); (try rw [h2]))
      have hno : (lsN (inE f) (ii + 1)).n = 0 := by (show addN _ _ _ = 0; rw [hp, hM]; exact addN_f (by rw [hc]; rfl))
      refine round_norm (s0 := o1U m f a b) (T := o1T m f a b) (i := .a ii) (.a (ii + 1)) (oA_4 m f a b 0 (fun _ => ent0) (fun _ => none) ii) (ob_cons rfl (ob_cons rfl (ob_cons rfl (ob_cons rfl (ob_cons rfl (ob_cons rfl (ob_cons rfl (ob_cons ?_ (ob_cons rfl (ob_cons (Nat.le_refl _) (ob_cons (.inl ⟨rfl, rfl⟩) (ob_cons h2 (ob_cons ?_ (ob_cons ?_ (ob_cons h1 ob_nil))))))))))))))) ⟨by omega, hno⟩ (by show m - (ii + 1) < m - ii; omega)
      · -- IntKind.i64.wrap (Int.ofNat ii + 1) = Int.ofNat (ii + 1)
        first | exact wrap_nat64 _ (by simp; omega) (by simp; omega) | exact hn.symm | exact hn | (rw [hn]; rfl) | (rw [hn]; exact Nat.le_refl _) | (intro k; rw [hMM]; rfl) | exact o1_row hp hn
      · -- (0 + ii).blt m = true
        first | (apply Nat.ble_eq_true_of_le; omega) | (simp [Nat.blt_eq]; omega) | exact hn.symm | exact hn | (rw [hn]; rfl) | (rw [hn]; exact Nat.le_refl _) | (intro k; rw [hMM]; rfl) | exact o1_row hp hn
      · -- (ii.blt m && decide (0 ≤ Int.ofNat ii)) = true
        first | (apply Nat.ble_eq_true_of_le; omega) | (simp [Nat.blt_eq]; omega) | exact hn.symm | exact hn | (rw [hn]; rfl) | (rw [hn]; exact Nat.le_refl _) | (intro k; rw [hMM]; rfl) | exact o1_row hp hn
  | false =>
    have g1 := of_decide_eq_false h1
    try simp only [Int.ofNat_eq_natCast, ge_iff_le, gt_iff_lt, Int.not_lt, Int.not_le] at g1
    obtain rfl : ii = m := by omega
    rw [hs rfl]
    refine round_exit (s0 := o1U ii f a b) (T := o1T ii f a b) (i := .a ii) (oA_5 ii f a b 0 (fun _ => ent0) (fun _ => none) ii) (by simp) (ob_cons rfl (ob_cons rfl (ob_cons rfl (ob_cons rfl (ob_cons rfl (ob_cons rfl (ob_cons rfl (ob_cons rfl (ob_cons (Nat.le_refl _) (ob_cons (.inl ⟨rfl, rfl⟩) (ob_cons h1 ob_nil)))))))))))
theorem o1_lpB (hm : m ≤ 100) (h : 0 < (lsN (inE f) m).n) : LoopHolds Try.prog lcO1 (o1U m f a b) (.exit 0) (o1SB m f a b (lsN (inE f) m).n (lsN (inE f) m).E (lsN (inE f) m).M) := by
  refine loop_rule EB_ok (I := I2) (o1T m f a b) (o1mu m) (o1ok m f) ?_ (fun i hi => ?_)
  · exact ⟨.a 0, [], _, ⟨Nat.zero_le _, rfl⟩, (by kernel_rfl : castSt _ [] _ _ = some [(0 : Nat) = 0, m = m, (none : Option Nat) = none, a = a, b = b, (0 : Nat) = 0, (0 : Nat) = 0, (0 : Int) = Int.ofNat 0, true = true, m ≤ m, (f = f ∧ plainSh eSh = true) ∨ ∀ i, i < m → rowOb eSh 0 (f i) (f i)]),
      ob_cons rfl (ob_cons rfl (ob_cons rfl (ob_cons rfl (ob_cons rfl (ob_cons rfl (ob_cons rfl (ob_cons rfl (ob_cons rfl (ob_cons (Nat.le_refl _) (ob_cons (.inl ⟨rfl, rfl⟩) ob_nil))))))))))⟩
  · cases i with
    | a ii => exact o1_roundA m f a b hm ii hi.1 hi.2 _ (fun e => by subst e; have := hi.2; omega)
    | b ii => exact o1_roundB m f a b hm ii hi.1 hi.2
theorem o1_lpA (hm : m ≤ 100) (h : (lsN (inE f) m).n = 0) : LoopHolds Try.prog lcO1 (o1U m f a b) (.exit 0) (o1SA m f a b) := by
  refine loop_rule EB_ok (I := I2) (o1T m f a b) (o1mu m) (fun i => match i with | .a i => i ≤ m | .b i => False) ?_ (fun i hi => ?_)
  · exact ⟨.a 0, [], _, Nat.zero_le _, (by kernel_rfl : castSt _ [] _ _ = some [(0 : Nat) = 0, m = m, (none : Option Nat) = none, a = a, b = b, (0 : Nat) = 0, (0 : Nat) = 0, (0 : Int) = Int.ofNat 0, true = true, m ≤ m, (f = f ∧ plainSh eSh = true) ∨ ∀ i, i < m → rowOb eSh 0 (f i) (f i)]),
      ob_cons rfl (ob_cons rfl (ob_cons rfl (ob_cons rfl (ob_cons rfl (ob_cons rfl (ob_cons rfl (ob_cons rfl (ob_cons rfl (ob_cons (Nat.le_refl _) (ob_cons (.inl ⟨rfl, rfl⟩) ob_nil))))))))))⟩
  · cases i with
    | a ii =>
      have hz : ∀ k, k ≤ m → (lsN (inE f) k).n = 0 := fun k hk => by have := lsN_mono (inE f) hk; omega
      have hr := o1_roundA m f a b hm ii hi (hz ii hi) (o1SA m f a b) (fun _ => rfl)
      obtain ⟨fuel, hints, e, s', x1, x2, x3⟩ := hr
      refine ⟨fuel, hints, e, s', x1, x2, ?_⟩
      rcases x3 with ⟨y1, j, mm, ob, y2, y3, y4, y5⟩ | y
      · cases j with
        | a jj => exact .inl ⟨y1, .a jj, mm, ob, y2.1, y3, y4, y5⟩
        | b jj => have := hz jj y2.1; have := y2.2; omega
      · exact .inr y
    | b ii => exact hi.elim
end
end Go.Proofs.Ytnecknppajbcdaa
