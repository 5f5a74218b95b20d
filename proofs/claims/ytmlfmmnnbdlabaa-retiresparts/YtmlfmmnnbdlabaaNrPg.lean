/-
  RetiresParts: the third loop.
-/
import Derived.Test.YtmlfmmnnbdlabaaNrPgDef
set_option linter.unusedSimpArgs false
set_option linter.unusedVariables false
namespace Go.Proofs.Ytmlfmmnnbdlabaa
open Go.Ev
theorem pd11r_1 (n : Nat) (E : Nat → Ent) (G : List Ent) (S : List Ent) (M : List Int → Option Int) (ii : Nat) : roundB ERp 2000 pd11L ((pd11U n E G S M).hp) [(12, Src.nm 14)] (pd11T n E G S M ii) [Hint.b true, Hint.b false, Hint.b false] (pd11T n E G S M (ii + 1)) =
 some (Ex.norm, [(0 : Nat) = 0,
 (0 : Nat) = 0,
 (0 : Nat) = 0,
 n = n,
 some n = some n,
 (0 : Nat) = 0,
 G.length = G.length,
 some G.length = some G.length,
 IntKind.i64.wrap (Int.ofNat ii + 1) = Int.ofNat (ii + 1),
 (0 : Nat) = 0,
 addN (addN (reTwo (LS.mk S.length (entAt S) M) (entAt G) ii).n (reTwo (LS.mk S.length (entAt S) M) (entAt G) ii).M (entAt G (0 + ii))) (addM (reTwo (LS.mk S.length (entAt S) M) (entAt G) ii).M (entAt G (0 + ii))) (entAt G (0 + ii)) = (reTwo (LS.mk S.length (entAt S) M) (entAt G) (ii + 1)).n,
 (none : Option Nat) = none,
 false = false,
 (reTwo (LS.mk S.length (entAt S) M) (entAt G) (ii + 1)).n ≤ addN (addN (reTwo (LS.mk S.length (entAt S) M) (entAt G) ii).n (reTwo (LS.mk S.length (entAt S) M) (entAt G) ii).M (entAt G (0 + ii))) (addM (reTwo (LS.mk S.length (entAt S) M) (entAt G) ii).M (entAt G (0 + ii))) (entAt G (0 + ii)),
 entF (reTwo (LS.mk S.length (entAt S) M) (entAt G) (ii + 1)).E = entF (addF (addN (reTwo (LS.mk S.length (entAt S) M) (entAt G) ii).n (reTwo (LS.mk S.length (entAt S) M) (entAt G) ii).M (entAt G (0 + ii))) (fun i => entOf (entF (addF (reTwo (LS.mk S.length (entAt S) M) (entAt G) ii).n (fun i => entOf (entF (reTwo (LS.mk S.length (entAt S) M) (entAt G) ii).E i)) (entAt G (0 + ii))) i)) (entAt G (0 + ii))) ∧ plainSh eSh = true ∨ ∀ (i : Nat), i < (reTwo (LS.mk S.length (entAt S) M) (entAt G) (ii + 1)).n → rowOb eSh 0 (entF (addF (addN (reTwo (LS.mk S.length (entAt S) M) (entAt G) ii).n (reTwo (LS.mk S.length (entAt S) M) (entAt G) ii).M (entAt G (0 + ii))) (fun i => entOf (entF (addF (reTwo (LS.mk S.length (entAt S) M) (entAt G) ii).n (fun i => entOf (entF (reTwo (LS.mk S.length (entAt S) M) (entAt G) ii).E i)) (entAt G (0 + ii))) i)) (entAt G (0 + ii))) i) (entF (reTwo (LS.mk S.length (entAt S) M) (entAt G) (ii + 1)).E i),
 ∀ (k : List Int), addM (addM (reTwo (LS.mk S.length (entAt S) M) (entAt G) ii).M (entAt G (0 + ii))) (entAt G (0 + ii)) k = (reTwo (LS.mk S.length (entAt S) M) (entAt G) (ii + 1)).M k,
 false = false,
 n ≤ n,
 entF E = entF E ∧ plainSh eSh = true ∨ ∀ (i : Nat), i < n → rowOb eSh 0 (entF E i) (entF E i),
 false = false,
 G.length ≤ G.length,
 entF (entAt G) = entF (entAt G) ∧ plainSh eSh = true ∨ ∀ (i : Nat), i < G.length → rowOb eSh 0 (entF (entAt G) i) (entF (entAt G) i),
 (addE (addM (reTwo (LS.mk S.length (entAt S) M) (entAt G) ii).M (entAt G (0 + ii))) (entAt G (0 + ii)) != 8) = false,
 addN (reTwo (LS.mk S.length (entAt S) M) (entAt G) ii).n (reTwo (LS.mk S.length (entAt S) M) (entAt G) ii).M (entAt G (0 + ii)) ≤ addN (reTwo (LS.mk S.length (entAt S) M) (entAt G) ii).n (reTwo (LS.mk S.length (entAt S) M) (entAt G) ii).M (entAt G (0 + ii)),
 addN (reTwo (LS.mk S.length (entAt S) M) (entAt G) ii).n (reTwo (LS.mk S.length (entAt S) M) (entAt G) ii).M (entAt G (0 + ii)) ≤ 1000000,
 (0 + ii).blt G.length = true,
 (ii.blt G.length && decide (0 ≤ Int.ofNat ii)) = true,
 (addE (reTwo (LS.mk S.length (entAt S) M) (entAt G) ii).M (entAt G (0 + ii)) != 0) = false,
 (reTwo (LS.mk S.length (entAt S) M) (entAt G) ii).n ≤ (reTwo (LS.mk S.length (entAt S) M) (entAt G) ii).n,
 (reTwo (LS.mk S.length (entAt S) M) (entAt G) ii).n ≤ 1000000,
 (0 + ii).blt G.length = true,
 (ii.blt G.length && decide (0 ≤ Int.ofNat ii)) = true,
 decide (Int.ofNat ii < Int.ofNat G.length) = true]) := by kernel_rfl
theorem pd11r_2 (n : Nat) (E : Nat → Ent) (G : List Ent) (S : List Ent) (M : List Int → Option Int) (ii : Nat) : roundB ERp 2000 pd11L ((pd11U n E G S M).hp) [(12, Src.nm 12)] (pd11T n E G S M ii) [Hint.b false] (pd11X n E G S M ii) =
 some (Ex.exit 5, [(0 : Nat) = 0,
 (0 : Nat) = 0,
 (0 : Nat) = 0,
 n = n,
 some n = some n,
 (0 : Nat) = 0,
 (reTwo (LS.mk S.length (entAt S) M) (entAt G) ii).n = (reTwo (LS.mk S.length (entAt S) M) (entAt G) ii).n,
 (none : Option Nat) = none,
 false = false,
 (reTwo (LS.mk S.length (entAt S) M) (entAt G) ii).n ≤ (reTwo (LS.mk S.length (entAt S) M) (entAt G) ii).n,
 entF (reTwo (LS.mk S.length (entAt S) M) (entAt G) ii).E = entF (reTwo (LS.mk S.length (entAt S) M) (entAt G) ii).E ∧ plainSh eSh = true ∨ ∀ (i : Nat), i < (reTwo (LS.mk S.length (entAt S) M) (entAt G) ii).n → rowOb eSh 0 (entF (reTwo (LS.mk S.length (entAt S) M) (entAt G) ii).E i) (entF (reTwo (LS.mk S.length (entAt S) M) (entAt G) ii).E i),
 ∀ (k : List Int), (reTwo (LS.mk S.length (entAt S) M) (entAt G) ii).M k = (reTwo (LS.mk S.length (entAt S) M) (entAt G) ii).M k,
 false = false,
 n ≤ n,
 entF E = entF E ∧ plainSh eSh = true ∨ ∀ (i : Nat), i < n → rowOb eSh 0 (entF E i) (entF E i),
 decide (Int.ofNat ii < Int.ofNat G.length) = false]) := by kernel_rfl
theorem pd11i_1 (n : Nat) (E : Nat → Ent) (G : List Ent) (S : List Ent) (M : List Int → Option Int) : castSt ((pd11U n E G S M).hp) [(12, Src.nm 10)] (pd11U n E G S M) (pd11T n E G S M 0) =
 some ([(0 : Nat) = 0,
 (0 : Nat) = 0,
 (0 : Nat) = 0,
 n = n,
 some n = some n,
 (0 : Nat) = 0,
 G.length = G.length,
 some G.length = some G.length,
 (0 : Int) = 0,
 (0 : Nat) = 0,
 S.length = (reTwo (LS.mk S.length (entAt S) M) (entAt G) 0).n,
 (none : Option Nat) = none,
 false = false,
 (reTwo (LS.mk S.length (entAt S) M) (entAt G) 0).n ≤ S.length,
 entF (reTwo (LS.mk S.length (entAt S) M) (entAt G) 0).E = entF (entAt S) ∧ plainSh eSh = true ∨ ∀ (i : Nat), i < (reTwo (LS.mk S.length (entAt S) M) (entAt G) 0).n → rowOb eSh 0 (entF (entAt S) i) (entF (reTwo (LS.mk S.length (entAt S) M) (entAt G) 0).E i),
 ∀ (k : List Int), M k = (reTwo (LS.mk S.length (entAt S) M) (entAt G) 0).M k,
 false = false,
 n ≤ n,
 entF E = entF E ∧ plainSh eSh = true ∨ ∀ (i : Nat), i < n → rowOb eSh 0 (entF E i) (entF E i),
 false = false,
 G.length ≤ G.length,
 entF (entAt G) = entF (entAt G) ∧ plainSh eSh = true ∨ ∀ (i : Nat), i < G.length → rowOb eSh 0 (entF (entAt G) i) (entF (entAt G) i)]) := by kernel_rfl
theorem pd11_lp (n : Nat) (E : Nat → Ent) (G : List Ent) (S : List Ent) (M : List Int → Option Int) (hG0 : G.length + S.length ≤ 100) (hn : n ≤ 1000000) (hA : ∀ j, j < G.length → addE (reTwo ⟨S.length, entAt S, M⟩ (entAt G) j).M (entAt G (0 + j)) = 0 ∧ addE (addM (reTwo ⟨S.length, entAt S, M⟩ (entAt G) j).M (entAt G (0 + j))) (entAt G (0 + j)) = 8) (hN : ∀ j, j ≤ G.length → (reTwo ⟨S.length, entAt S, M⟩ (entAt G) j).n = S.length + j) : pd11LP n E G S M := by
  refine loop_rule ERp_ok (I := Nat) (fun i => pd11T n E G S M i) (fun i => G.length - i) (fun i => i ≤ G.length) ?_ (fun ii hi => ?_)
  ·
    refine ⟨0, [(12, Src.nm 10)], _, Nat.zero_le _, pd11i_1 .., (ob_cons rfl (ob_cons rfl (ob_cons rfl (ob_cons rfl (ob_cons rfl (ob_cons rfl (ob_cons rfl (ob_cons rfl (ob_cons rfl (ob_cons rfl (ob_cons ?_ (ob_cons rfl (ob_cons rfl (ob_cons ?_ (ob_cons ?_ (ob_cons ?_ (ob_cons rfl (ob_cons (Nat.le_refl _) (ob_cons (.inl ⟨rfl, rfl⟩) (ob_cons rfl (ob_cons (Nat.le_refl _) (ob_cons (.inl ⟨rfl, rfl⟩) ob_nil))))))))))))))))))))))⟩
    ·
      first | rfl | with_reducible assumption | (rw [Nat.zero_add]; done) | (rw [(hAA (by omega)).1]; rfl) | (rw [(hAA (by omega)).2]; rfl) | exact hS.symm | exact hS | exact Nat.le_of_eq hS | (simp [Nat.zero_add]; done) | (rw [hN1 (by omega)]; omega) | (rw [hN1 (by omega)]; exact Nat.le_refl _) | (simp; omega)
    ·
      first | exact Nat.le_refl _ | omega | with_reducible assumption | (rw [Nat.zero_add]; done) | (rw [(hAA (by omega)).1]; rfl) | (rw [(hAA (by omega)).2]; rfl) | exact hS.symm | exact hS | exact Nat.le_of_eq hS | (simp [Nat.zero_add]; done) | (rw [hN1 (by omega)]; omega) | (rw [hN1 (by omega)]; exact Nat.le_refl _) | (simp; omega)
    ·
      first | exact .inl ⟨rfl, rfl⟩ | with_reducible assumption | (rw [Nat.zero_add]; done) | (rw [(hAA (by omega)).1]; rfl) | (rw [(hAA (by omega)).2]; rfl) | exact hS.symm | exact hS | exact Nat.le_of_eq hS | (simp [Nat.zero_add]; done) | (rw [hN1 (by omega)]; omega) | (rw [hN1 (by omega)]; exact Nat.le_refl _) | (simp; omega)
    ·
      first | exact fun _ => rfl | with_reducible assumption | (rw [Nat.zero_add]; done) | (rw [(hAA (by omega)).1]; rfl) | (rw [(hAA (by omega)).2]; rfl) | exact hS.symm | exact hS | exact Nat.le_of_eq hS | (simp [Nat.zero_add]; done) | (rw [hN1 (by omega)]; omega) | (rw [hN1 (by omega)]; exact Nat.le_refl _) | (simp; omega)
  have hi : ii ≤ G.length := hi
  have hNi := hN ii hi
  have hAA : ii < G.length → addE (reTwo ⟨S.length, entAt S, M⟩ (entAt G) ii).M (entAt G (0 + ii)) = 0 ∧ addE (addM (reTwo ⟨S.length, entAt S, M⟩ (entAt G) ii).M (entAt G (0 + ii))) (entAt G (0 + ii)) = 8 := fun h => hA ii h
  have hN1 : ii < G.length → addN (reTwo ⟨S.length, entAt S, M⟩ (entAt G) ii).n (reTwo ⟨S.length, entAt S, M⟩ (entAt G) ii).M (entAt G (0 + ii)) = S.length + ii + 1 := fun h => by rw [addN_t (by rw [(hAA h).1]; rfl), hNi]
  cases h1 : (decide (Int.ofNat ii < Int.ofNat G.length)) with
  | true =>
    have g1 := of_decide_eq_true h1
    try simp only [Int.ofNat_eq_natCast, ge_iff_le, gt_iff_lt, Int.not_lt, Int.not_le] at g1
    refine round_norm (s0 := pd11U n E G S M) (T := fun i => pd11T n E G S M i) (i := ii) (ii + 1) (pd11r_1 ..) (ob_cons rfl (ob_cons rfl (ob_cons rfl (ob_cons rfl (ob_cons rfl (ob_cons rfl (ob_cons rfl (ob_cons rfl (ob_cons ?_ (ob_cons rfl (ob_cons ?_ (ob_cons rfl (ob_cons rfl (ob_cons ?_ (ob_cons ?_ (ob_cons ?_ (ob_cons rfl (ob_cons (Nat.le_refl _) (ob_cons (.inl ⟨rfl, rfl⟩) (ob_cons rfl (ob_cons (Nat.le_refl _) (ob_cons (.inl ⟨rfl, rfl⟩) (ob_cons ?_ (ob_cons (Nat.le_refl _) (ob_cons ?_ (ob_cons ?_ (ob_cons ?_ (ob_cons ?_ (ob_cons (Nat.le_refl _) (ob_cons ?_ (ob_cons ?_ (ob_cons ?_ (ob_cons h1 ob_nil))))))))))))))))))))))))))))))))) (by show ii + 1 ≤ G.length; omega) (by show G.length - (ii + 1) < G.length - ii; omega)
    ·
      first | exact wrap_nat64 _ (by simp; omega) (by simp; omega) | with_reducible assumption | (rw [Nat.zero_add]; done) | (rw [(hAA (by omega)).1]; rfl) | (rw [(hAA (by omega)).2]; rfl) | exact hS.symm | exact hS | exact Nat.le_of_eq hS | (simp [Nat.zero_add]; done) | (rw [hN1 (by omega)]; omega) | (rw [hN1 (by omega)]; exact Nat.le_refl _) | (simp; omega)
    ·
      first | rfl | with_reducible assumption | (rw [Nat.zero_add]; done) | (rw [(hAA (by omega)).1]; rfl) | (rw [(hAA (by omega)).2]; rfl) | exact hS.symm | exact hS | exact Nat.le_of_eq hS | (simp [Nat.zero_add]; done) | (rw [hN1 (by omega)]; omega) | (rw [hN1 (by omega)]; exact Nat.le_refl _) | (simp; omega)
    ·
      first | exact Nat.le_refl _ | omega | with_reducible assumption | (rw [Nat.zero_add]; done) | (rw [(hAA (by omega)).1]; rfl) | (rw [(hAA (by omega)).2]; rfl) | exact hS.symm | exact hS | exact Nat.le_of_eq hS | (simp [Nat.zero_add]; done) | (rw [hN1 (by omega)]; omega) | (rw [hN1 (by omega)]; exact Nat.le_refl _) | (simp; omega)
    ·
      first | exact .inl ⟨rfl, rfl⟩ | with_reducible assumption | (rw [Nat.zero_add]; done) | (rw [(hAA (by omega)).1]; rfl) | (rw [(hAA (by omega)).2]; rfl) | exact hS.symm | exact hS | exact Nat.le_of_eq hS | (simp [Nat.zero_add]; done) | (rw [hN1 (by omega)]; omega) | (rw [hN1 (by omega)]; exact Nat.le_refl _) | (simp; omega)
    ·
      first | exact fun _ => rfl | with_reducible assumption | (rw [Nat.zero_add]; done) | (rw [(hAA (by omega)).1]; rfl) | (rw [(hAA (by omega)).2]; rfl) | exact hS.symm | exact hS | exact Nat.le_of_eq hS | (simp [Nat.zero_add]; done) | (rw [hN1 (by omega)]; omega) | (rw [hN1 (by omega)]; exact Nat.le_refl _) | (simp; omega)
    ·
      first | (apply Nat.ble_eq_true_of_le; omega) | (simp [Nat.blt_eq]; omega) | with_reducible assumption | (rw [Nat.zero_add]; done) | (rw [(hAA (by omega)).1]; rfl) | (rw [(hAA (by omega)).2]; rfl) | exact hS.symm | exact hS | exact Nat.le_of_eq hS | (simp [Nat.zero_add]; done) | (rw [hN1 (by omega)]; omega) | (rw [hN1 (by omega)]; exact Nat.le_refl _) | (simp; omega)
    ·
      first | exact Nat.le_refl _ | omega | with_reducible assumption | (rw [Nat.zero_add]; done) | (rw [(hAA (by omega)).1]; rfl) | (rw [(hAA (by omega)).2]; rfl) | exact hS.symm | exact hS | exact Nat.le_of_eq hS | (simp [Nat.zero_add]; done) | (rw [hN1 (by omega)]; omega) | (rw [hN1 (by omega)]; exact Nat.le_refl _) | (simp; omega)
    ·
      first | (apply Nat.ble_eq_true_of_le; omega) | (simp [Nat.blt_eq]; omega) | with_reducible assumption | (rw [Nat.zero_add]; done) | (rw [(hAA (by omega)).1]; rfl) | (rw [(hAA (by omega)).2]; rfl) | exact hS.symm | exact hS | exact Nat.le_of_eq hS | (simp [Nat.zero_add]; done) | (rw [hN1 (by omega)]; omega) | (rw [hN1 (by omega)]; exact Nat.le_refl _) | (simp; omega)
    ·
      first | (apply Nat.ble_eq_true_of_le; omega) | (simp [Nat.blt_eq]; omega) | with_reducible assumption | (rw [Nat.zero_add]; done) | (rw [(hAA (by omega)).1]; rfl) | (rw [(hAA (by omega)).2]; rfl) | exact hS.symm | exact hS | exact Nat.le_of_eq hS | (simp [Nat.zero_add]; done) | (rw [hN1 (by omega)]; omega) | (rw [hN1 (by omega)]; exact Nat.le_refl _) | (simp; omega)
    ·
      first | (apply Nat.ble_eq_true_of_le; omega) | (simp [Nat.blt_eq]; omega) | with_reducible assumption | (rw [Nat.zero_add]; done) | (rw [(hAA (by omega)).1]; rfl) | (rw [(hAA (by omega)).2]; rfl) | exact hS.symm | exact hS | exact Nat.le_of_eq hS | (simp [Nat.zero_add]; done) | (rw [hN1 (by omega)]; omega) | (rw [hN1 (by omega)]; exact Nat.le_refl _) | (simp; omega)
    ·
      first | exact Nat.le_refl _ | omega | with_reducible assumption | (rw [Nat.zero_add]; done) | (rw [(hAA (by omega)).1]; rfl) | (rw [(hAA (by omega)).2]; rfl) | exact hS.symm | exact hS | exact Nat.le_of_eq hS | (simp [Nat.zero_add]; done) | (rw [hN1 (by omega)]; omega) | (rw [hN1 (by omega)]; exact Nat.le_refl _) | (simp; omega)
    ·
      first | (apply Nat.ble_eq_true_of_le; omega) | (simp [Nat.blt_eq]; omega) | with_reducible assumption | (rw [Nat.zero_add]; done) | (rw [(hAA (by omega)).1]; rfl) | (rw [(hAA (by omega)).2]; rfl) | exact hS.symm | exact hS | exact Nat.le_of_eq hS | (simp [Nat.zero_add]; done) | (rw [hN1 (by omega)]; omega) | (rw [hN1 (by omega)]; exact Nat.le_refl _) | (simp; omega)
    ·
      first | (apply Nat.ble_eq_true_of_le; omega) | (simp [Nat.blt_eq]; omega) | with_reducible assumption | (rw [Nat.zero_add]; done) | (rw [(hAA (by omega)).1]; rfl) | (rw [(hAA (by omega)).2]; rfl) | exact hS.symm | exact hS | exact Nat.le_of_eq hS | (simp [Nat.zero_add]; done) | (rw [hN1 (by omega)]; omega) | (rw [hN1 (by omega)]; exact Nat.le_refl _) | (simp; omega)
  | false =>
    have g1 := of_decide_eq_false h1
    try simp only [Int.ofNat_eq_natCast, ge_iff_le, gt_iff_lt, Int.not_lt, Int.not_le] at g1
    obtain rfl : G.length = ii := by omega
    refine round_exit (s0 := pd11U n E G S M) (T := fun i => pd11T n E G S M i) (i := G.length) (pd11r_2 ..) (by simp) (ob_cons rfl (ob_cons rfl (ob_cons rfl (ob_cons rfl (ob_cons rfl (ob_cons rfl (ob_cons rfl (ob_cons rfl (ob_cons rfl (ob_cons (Nat.le_refl _) (ob_cons (.inl ⟨rfl, rfl⟩) (ob_cons (fun _ => rfl) (ob_cons rfl (ob_cons (Nat.le_refl _) (ob_cons (.inl ⟨rfl, rfl⟩) (ob_cons h1 ob_nil))))))))))))))))
theorem pd10r_1 (n : Nat) (E : Nat → Ent) (G : List Ent) (S : List Ent) (M : List Int → Option Int) (ii : Nat) : roundB ERp 2000 pd10L ((pd10U n E G S M).hp) [(12, Src.nm 14)] (pd10T n E G S M ii) [Hint.b true, Hint.b false, Hint.b false] (pd10T n E G S M (ii + 1)) =
 some (Ex.norm, [(0 : Nat) = 0,
 (0 : Nat) = 0,
 (0 : Nat) = 0,
 n = n,
 some n = some n,
 (0 : Nat) = 0,
 G.length = G.length,
 some G.length = some G.length,
 IntKind.i64.wrap (Int.ofNat ii + 1) = Int.ofNat (ii + 1),
 (0 : Nat) = 0,
 addN (addN (reTwo (LS.mk S.length (entAt S) M) (entAt G) ii).n (reTwo (LS.mk S.length (entAt S) M) (entAt G) ii).M (entAt G (0 + ii))) (addM (reTwo (LS.mk S.length (entAt S) M) (entAt G) ii).M (entAt G (0 + ii))) (entAt G (0 + ii)) = (reTwo (LS.mk S.length (entAt S) M) (entAt G) (ii + 1)).n,
 (none : Option Nat) = none,
 false = false,
 (reTwo (LS.mk S.length (entAt S) M) (entAt G) (ii + 1)).n ≤ addN (addN (reTwo (LS.mk S.length (entAt S) M) (entAt G) ii).n (reTwo (LS.mk S.length (entAt S) M) (entAt G) ii).M (entAt G (0 + ii))) (addM (reTwo (LS.mk S.length (entAt S) M) (entAt G) ii).M (entAt G (0 + ii))) (entAt G (0 + ii)),
 entF (reTwo (LS.mk S.length (entAt S) M) (entAt G) (ii + 1)).E = entF (addF (addN (reTwo (LS.mk S.length (entAt S) M) (entAt G) ii).n (reTwo (LS.mk S.length (entAt S) M) (entAt G) ii).M (entAt G (0 + ii))) (fun i => entOf (entF (addF (reTwo (LS.mk S.length (entAt S) M) (entAt G) ii).n (fun i => entOf (entF (reTwo (LS.mk S.length (entAt S) M) (entAt G) ii).E i)) (entAt G (0 + ii))) i)) (entAt G (0 + ii))) ∧ plainSh eSh = true ∨ ∀ (i : Nat), i < (reTwo (LS.mk S.length (entAt S) M) (entAt G) (ii + 1)).n → rowOb eSh 0 (entF (addF (addN (reTwo (LS.mk S.length (entAt S) M) (entAt G) ii).n (reTwo (LS.mk S.length (entAt S) M) (entAt G) ii).M (entAt G (0 + ii))) (fun i => entOf (entF (addF (reTwo (LS.mk S.length (entAt S) M) (entAt G) ii).n (fun i => entOf (entF (reTwo (LS.mk S.length (entAt S) M) (entAt G) ii).E i)) (entAt G (0 + ii))) i)) (entAt G (0 + ii))) i) (entF (reTwo (LS.mk S.length (entAt S) M) (entAt G) (ii + 1)).E i),
 ∀ (k : List Int), addM (addM (reTwo (LS.mk S.length (entAt S) M) (entAt G) ii).M (entAt G (0 + ii))) (entAt G (0 + ii)) k = (reTwo (LS.mk S.length (entAt S) M) (entAt G) (ii + 1)).M k,
 false = false,
 n ≤ n,
 entF E = entF E ∧ plainSh eSh = true ∨ ∀ (i : Nat), i < n → rowOb eSh 0 (entF E i) (entF E i),
 false = false,
 G.length ≤ G.length,
 entF (entAt G) = entF (entAt G) ∧ plainSh eSh = true ∨ ∀ (i : Nat), i < G.length → rowOb eSh 0 (entF (entAt G) i) (entF (entAt G) i),
 (addE (addM (reTwo (LS.mk S.length (entAt S) M) (entAt G) ii).M (entAt G (0 + ii))) (entAt G (0 + ii)) != 8) = false,
 addN (reTwo (LS.mk S.length (entAt S) M) (entAt G) ii).n (reTwo (LS.mk S.length (entAt S) M) (entAt G) ii).M (entAt G (0 + ii)) ≤ addN (reTwo (LS.mk S.length (entAt S) M) (entAt G) ii).n (reTwo (LS.mk S.length (entAt S) M) (entAt G) ii).M (entAt G (0 + ii)),
 addN (reTwo (LS.mk S.length (entAt S) M) (entAt G) ii).n (reTwo (LS.mk S.length (entAt S) M) (entAt G) ii).M (entAt G (0 + ii)) ≤ 1000000,
 (0 + ii).blt G.length = true,
 (ii.blt G.length && decide (0 ≤ Int.ofNat ii)) = true,
 (addE (reTwo (LS.mk S.length (entAt S) M) (entAt G) ii).M (entAt G (0 + ii)) != 0) = false,
 (reTwo (LS.mk S.length (entAt S) M) (entAt G) ii).n ≤ (reTwo (LS.mk S.length (entAt S) M) (entAt G) ii).n,
 (reTwo (LS.mk S.length (entAt S) M) (entAt G) ii).n ≤ 1000000,
 (0 + ii).blt G.length = true,
 (ii.blt G.length && decide (0 ≤ Int.ofNat ii)) = true,
 decide (Int.ofNat ii < Int.ofNat G.length) = true]) := by kernel_rfl
theorem pd10r_2 (n : Nat) (E : Nat → Ent) (G : List Ent) (S : List Ent) (M : List Int → Option Int) (ii : Nat) : roundB ERp 2000 pd10L ((pd10U n E G S M).hp) [(12, Src.nm 12)] (pd10T n E G S M ii) [Hint.b false] (pd10X n E G S M ii) =
 some (Ex.exit 5, [(0 : Nat) = 0,
 (0 : Nat) = 0,
 (0 : Nat) = 0,
 n = n,
 some n = some n,
 (0 : Nat) = 0,
 (reTwo (LS.mk S.length (entAt S) M) (entAt G) ii).n = (reTwo (LS.mk S.length (entAt S) M) (entAt G) ii).n,
 (none : Option Nat) = none,
 false = false,
 (reTwo (LS.mk S.length (entAt S) M) (entAt G) ii).n ≤ (reTwo (LS.mk S.length (entAt S) M) (entAt G) ii).n,
 entF (reTwo (LS.mk S.length (entAt S) M) (entAt G) ii).E = entF (reTwo (LS.mk S.length (entAt S) M) (entAt G) ii).E ∧ plainSh eSh = true ∨ ∀ (i : Nat), i < (reTwo (LS.mk S.length (entAt S) M) (entAt G) ii).n → rowOb eSh 0 (entF (reTwo (LS.mk S.length (entAt S) M) (entAt G) ii).E i) (entF (reTwo (LS.mk S.length (entAt S) M) (entAt G) ii).E i),
 ∀ (k : List Int), (reTwo (LS.mk S.length (entAt S) M) (entAt G) ii).M k = (reTwo (LS.mk S.length (entAt S) M) (entAt G) ii).M k,
 false = false,
 n ≤ n,
 entF E = entF E ∧ plainSh eSh = true ∨ ∀ (i : Nat), i < n → rowOb eSh 0 (entF E i) (entF E i),
 decide (Int.ofNat ii < Int.ofNat G.length) = false]) := by kernel_rfl
theorem pd10i_1 (n : Nat) (E : Nat → Ent) (G : List Ent) (S : List Ent) (M : List Int → Option Int) : castSt ((pd10U n E G S M).hp) [(12, Src.nil 6)] (pd10U n E G S M) (pd10T n E G S M 0) =
 some ([(0 : Nat) = 0,
 (0 : Nat) = 0,
 (0 : Nat) = 0,
 n = n,
 some n = some n,
 (0 : Nat) = 0,
 G.length = G.length,
 some G.length = some G.length,
 (0 : Int) = 0,
 (0 : Nat) = 0,
 0 = (reTwo (LS.mk S.length (entAt S) M) (entAt G) 0).n,
 (none : Option Nat) = none,
 (reTwo (LS.mk S.length (entAt S) M) (entAt G) 0).n = 0,
 ∀ (k : List Int), M k = (reTwo (LS.mk S.length (entAt S) M) (entAt G) 0).M k,
 false = false,
 n ≤ n,
 entF E = entF E ∧ plainSh eSh = true ∨ ∀ (i : Nat), i < n → rowOb eSh 0 (entF E i) (entF E i),
 false = false,
 G.length ≤ G.length,
 entF (entAt G) = entF (entAt G) ∧ plainSh eSh = true ∨ ∀ (i : Nat), i < G.length → rowOb eSh 0 (entF (entAt G) i) (entF (entAt G) i)]) := by kernel_rfl
theorem pd10_lp (n : Nat) (E : Nat → Ent) (G : List Ent) (S : List Ent) (M : List Int → Option Int) (hG0 : G.length + S.length ≤ 100) (hn : n ≤ 1000000) (hA : ∀ j, j < G.length → addE (reTwo ⟨S.length, entAt S, M⟩ (entAt G) j).M (entAt G (0 + j)) = 0 ∧ addE (addM (reTwo ⟨S.length, entAt S, M⟩ (entAt G) j).M (entAt G (0 + j))) (entAt G (0 + j)) = 8) (hN : ∀ j, j ≤ G.length → (reTwo ⟨S.length, entAt S, M⟩ (entAt G) j).n = S.length + j) (hS : S.length = 0) : pd10LP n E G S M := by
  refine loop_rule ERp_ok (I := Nat) (fun i => pd10T n E G S M i) (fun i => G.length - i) (fun i => i ≤ G.length) ?_ (fun ii hi => ?_)
  ·
    refine ⟨0, [(12, Src.nil 6)], _, Nat.zero_le _, pd10i_1 .., (ob_cons rfl (ob_cons rfl (ob_cons rfl (ob_cons rfl (ob_cons rfl (ob_cons rfl (ob_cons rfl (ob_cons rfl (ob_cons rfl (ob_cons rfl (ob_cons ?_ (ob_cons rfl (ob_cons ?_ (ob_cons ?_ (ob_cons rfl (ob_cons (Nat.le_refl _) (ob_cons (.inl ⟨rfl, rfl⟩) (ob_cons rfl (ob_cons (Nat.le_refl _) (ob_cons (.inl ⟨rfl, rfl⟩) ob_nil))))))))))))))))))))⟩
    ·
      first | rfl | with_reducible assumption | (rw [Nat.zero_add]; done) | (rw [(hAA (by omega)).1]; rfl) | (rw [(hAA (by omega)).2]; rfl) | exact hS.symm | exact hS | exact Nat.le_of_eq hS | (simp [Nat.zero_add]; done) | (rw [hN1 (by omega)]; omega) | (rw [hN1 (by omega)]; exact Nat.le_refl _) | (simp; omega)
    ·
      first | rfl | with_reducible assumption | (rw [Nat.zero_add]; done) | (rw [(hAA (by omega)).1]; rfl) | (rw [(hAA (by omega)).2]; rfl) | exact hS.symm | exact hS | exact Nat.le_of_eq hS | (simp [Nat.zero_add]; done) | (rw [hN1 (by omega)]; omega) | (rw [hN1 (by omega)]; exact Nat.le_refl _) | (simp; omega)
    ·
      first | exact fun _ => rfl | with_reducible assumption | (rw [Nat.zero_add]; done) | (rw [(hAA (by omega)).1]; rfl) | (rw [(hAA (by omega)).2]; rfl) | exact hS.symm | exact hS | exact Nat.le_of_eq hS | (simp [Nat.zero_add]; done) | (rw [hN1 (by omega)]; omega) | (rw [hN1 (by omega)]; exact Nat.le_refl _) | (simp; omega)
  have hi : ii ≤ G.length := hi
  have hNi := hN ii hi
  have hAA : ii < G.length → addE (reTwo ⟨S.length, entAt S, M⟩ (entAt G) ii).M (entAt G (0 + ii)) = 0 ∧ addE (addM (reTwo ⟨S.length, entAt S, M⟩ (entAt G) ii).M (entAt G (0 + ii))) (entAt G (0 + ii)) = 8 := fun h => hA ii h
  have hN1 : ii < G.length → addN (reTwo ⟨S.length, entAt S, M⟩ (entAt G) ii).n (reTwo ⟨S.length, entAt S, M⟩ (entAt G) ii).M (entAt G (0 + ii)) = S.length + ii + 1 := fun h => by rw [addN_t (by rw [(hAA h).1]; rfl), hNi]
  cases h1 : (decide (Int.ofNat ii < Int.ofNat G.length)) with
  | true =>
    have g1 := of_decide_eq_true h1
    try simp only [Int.ofNat_eq_natCast, ge_iff_le, gt_iff_lt, Int.not_lt, Int.not_le] at g1
    refine round_norm (s0 := pd10U n E G S M) (T := fun i => pd10T n E G S M i) (i := ii) (ii + 1) (pd10r_1 ..) (ob_cons rfl (ob_cons rfl (ob_cons rfl (ob_cons rfl (ob_cons rfl (ob_cons rfl (ob_cons rfl (ob_cons rfl (ob_cons ?_ (ob_cons rfl (ob_cons ?_ (ob_cons rfl (ob_cons rfl (ob_cons ?_ (ob_cons ?_ (ob_cons ?_ (ob_cons rfl (ob_cons (Nat.le_refl _) (ob_cons (.inl ⟨rfl, rfl⟩) (ob_cons rfl (ob_cons (Nat.le_refl _) (ob_cons (.inl ⟨rfl, rfl⟩) (ob_cons ?_ (ob_cons (Nat.le_refl _) (ob_cons ?_ (ob_cons ?_ (ob_cons ?_ (ob_cons ?_ (ob_cons (Nat.le_refl _) (ob_cons ?_ (ob_cons ?_ (ob_cons ?_ (ob_cons h1 ob_nil))))))))))))))))))))))))))))))))) (by show ii + 1 ≤ G.length; omega) (by show G.length - (ii + 1) < G.length - ii; omega)
    ·
      first | exact wrap_nat64 _ (by simp; omega) (by simp; omega) | with_reducible assumption | (rw [Nat.zero_add]; done) | (rw [(hAA (by omega)).1]; rfl) | (rw [(hAA (by omega)).2]; rfl) | exact hS.symm | exact hS | exact Nat.le_of_eq hS | (simp [Nat.zero_add]; done) | (rw [hN1 (by omega)]; omega) | (rw [hN1 (by omega)]; exact Nat.le_refl _) | (simp; omega)
    ·
      first | rfl | with_reducible assumption | (rw [Nat.zero_add]; done) | (rw [(hAA (by omega)).1]; rfl) | (rw [(hAA (by omega)).2]; rfl) | exact hS.symm | exact hS | exact Nat.le_of_eq hS | (simp [Nat.zero_add]; done) | (rw [hN1 (by omega)]; omega) | (rw [hN1 (by omega)]; exact Nat.le_refl _) | (simp; omega)
    ·
      first | exact Nat.le_refl _ | omega | with_reducible assumption | (rw [Nat.zero_add]; done) | (rw [(hAA (by omega)).1]; rfl) | (rw [(hAA (by omega)).2]; rfl) | exact hS.symm | exact hS | exact Nat.le_of_eq hS | (simp [Nat.zero_add]; done) | (rw [hN1 (by omega)]; omega) | (rw [hN1 (by omega)]; exact Nat.le_refl _) | (simp; omega)
    ·
      first | exact .inl ⟨rfl, rfl⟩ | with_reducible assumption | (rw [Nat.zero_add]; done) | (rw [(hAA (by omega)).1]; rfl) | (rw [(hAA (by omega)).2]; rfl) | exact hS.symm | exact hS | exact Nat.le_of_eq hS | (simp [Nat.zero_add]; done) | (rw [hN1 (by omega)]; omega) | (rw [hN1 (by omega)]; exact Nat.le_refl _) | (simp; omega)
    ·
      first | exact fun _ => rfl | with_reducible assumption | (rw [Nat.zero_add]; done) | (rw [(hAA (by omega)).1]; rfl) | (rw [(hAA (by omega)).2]; rfl) | exact hS.symm | exact hS | exact Nat.le_of_eq hS | (simp [Nat.zero_add]; done) | (rw [hN1 (by omega)]; omega) | (rw [hN1 (by omega)]; exact Nat.le_refl _) | (simp; omega)
    ·
      first | (apply Nat.ble_eq_true_of_le; omega) | (simp [Nat.blt_eq]; omega) | with_reducible assumption | (rw [Nat.zero_add]; done) | (rw [(hAA (by omega)).1]; rfl) | (rw [(hAA (by omega)).2]; rfl) | exact hS.symm | exact hS | exact Nat.le_of_eq hS | (simp [Nat.zero_add]; done) | (rw [hN1 (by omega)]; omega) | (rw [hN1 (by omega)]; exact Nat.le_refl _) | (simp; omega)
    ·
      first | exact Nat.le_refl _ | omega | with_reducible assumption | (rw [Nat.zero_add]; done) | (rw [(hAA (by omega)).1]; rfl) | (rw [(hAA (by omega)).2]; rfl) | exact hS.symm | exact hS | exact Nat.le_of_eq hS | (simp [Nat.zero_add]; done) | (rw [hN1 (by omega)]; omega) | (rw [hN1 (by omega)]; exact Nat.le_refl _) | (simp; omega)
    ·
      first | (apply Nat.ble_eq_true_of_le; omega) | (simp [Nat.blt_eq]; omega) | with_reducible assumption | (rw [Nat.zero_add]; done) | (rw [(hAA (by omega)).1]; rfl) | (rw [(hAA (by omega)).2]; rfl) | exact hS.symm | exact hS | exact Nat.le_of_eq hS | (simp [Nat.zero_add]; done) | (rw [hN1 (by omega)]; omega) | (rw [hN1 (by omega)]; exact Nat.le_refl _) | (simp; omega)
    ·
      first | (apply Nat.ble_eq_true_of_le; omega) | (simp [Nat.blt_eq]; omega) | with_reducible assumption | (rw [Nat.zero_add]; done) | (rw [(hAA (by omega)).1]; rfl) | (rw [(hAA (by omega)).2]; rfl) | exact hS.symm | exact hS | exact Nat.le_of_eq hS | (simp [Nat.zero_add]; done) | (rw [hN1 (by omega)]; omega) | (rw [hN1 (by omega)]; exact Nat.le_refl _) | (simp; omega)
    ·
      first | (apply Nat.ble_eq_true_of_le; omega) | (simp [Nat.blt_eq]; omega) | with_reducible assumption | (rw [Nat.zero_add]; done) | (rw [(hAA (by omega)).1]; rfl) | (rw [(hAA (by omega)).2]; rfl) | exact hS.symm | exact hS | exact Nat.le_of_eq hS | (simp [Nat.zero_add]; done) | (rw [hN1 (by omega)]; omega) | (rw [hN1 (by omega)]; exact Nat.le_refl _) | (simp; omega)
    ·
      first | exact Nat.le_refl _ | omega | with_reducible assumption | (rw [Nat.zero_add]; done) | (rw [(hAA (by omega)).1]; rfl) | (rw [(hAA (by omega)).2]; rfl) | exact hS.symm | exact hS | exact Nat.le_of_eq hS | (simp [Nat.zero_add]; done) | (rw [hN1 (by omega)]; omega) | (rw [hN1 (by omega)]; exact Nat.le_refl _) | (simp; omega)
    ·
      first | (apply Nat.ble_eq_true_of_le; omega) | (simp [Nat.blt_eq]; omega) | with_reducible assumption | (rw [Nat.zero_add]; done) | (rw [(hAA (by omega)).1]; rfl) | (rw [(hAA (by omega)).2]; rfl) | exact hS.symm | exact hS | exact Nat.le_of_eq hS | (simp [Nat.zero_add]; done) | (rw [hN1 (by omega)]; omega) | (rw [hN1 (by omega)]; exact Nat.le_refl _) | (simp; omega)
    ·
      first | (apply Nat.ble_eq_true_of_le; omega) | (simp [Nat.blt_eq]; omega) | with_reducible assumption | (rw [Nat.zero_add]; done) | (rw [(hAA (by omega)).1]; rfl) | (rw [(hAA (by omega)).2]; rfl) | exact hS.symm | exact hS | exact Nat.le_of_eq hS | (simp [Nat.zero_add]; done) | (rw [hN1 (by omega)]; omega) | (rw [hN1 (by omega)]; exact Nat.le_refl _) | (simp; omega)
  | false =>
    have g1 := of_decide_eq_false h1
    try simp only [Int.ofNat_eq_natCast, ge_iff_le, gt_iff_lt, Int.not_lt, Int.not_le] at g1
    obtain rfl : G.length = ii := by omega
    refine round_exit (s0 := pd10U n E G S M) (T := fun i => pd10T n E G S M i) (i := G.length) (pd10r_2 ..) (by simp) (ob_cons rfl (ob_cons rfl (ob_cons rfl (ob_cons rfl (ob_cons rfl (ob_cons rfl (ob_cons rfl (ob_cons rfl (ob_cons rfl (ob_cons (Nat.le_refl _) (ob_cons (.inl ⟨rfl, rfl⟩) (ob_cons (fun _ => rfl) (ob_cons rfl (ob_cons (Nat.le_refl _) (ob_cons (.inl ⟨rfl, rfl⟩) (ob_cons h1 ob_nil))))))))))))))))
end Go.Proofs.Ytmlfmmnnbdlabaa
