/-
  RetiresParts: the second loop.
-/
import Derived.Test.YtmlfmmnnbdlabaaNrPfDef
set_option linter.unusedSimpArgs false
set_option linter.unusedVariables false
namespace Go.Proofs.Ytmlfmmnnbdlabaa
open Go.Ev
theorem pca11_1 (m : Nat) (q : Nat) (n : Nat) (f : Nat → Nat → AV) (g : Nat → Nat → AV) (E : Nat → Ent) (E1 : Nat → Ent) (G : List Ent) (S : List Ent) (M : List Int → Option Int) (ii : Nat) : roundB ERp 3000 pcL ((pcU11 m q n f g E E1 G S M).hp) [] (pcT11 q n g E G S M ii) [Hint.b true, Hint.b true, Hint.b true, Hint.node [(4, [Hint.b false])], Hint.b false] (pcT11 q n g E G S M (ii + 1)) =
 some (Ex.norm, [(0 : Nat) = 0,
 q = q,
 (none : Option Nat) = none,
 (0 : Nat) = 0,
 (0 : Nat) = 0,
 (0 : Nat) = 0,
 n = n,
 some n = some n,
 (0 : Nat) = 0,
 G.length = G.length,
 some G.length = some G.length,
 (0 : Nat) = 0,
 S.length = S.length,
 some S.length = some S.length,
 IntKind.i64.wrap (Int.ofNat (swG E (swP q g) ii).length + 1) = Int.ofNat (swG E (swP q g) (ii + 1)).length,
 Int.ofNat (swS E (swP q g) ii).length = Int.ofNat (swS E (swP q g) (ii + 1)).length,
 IntKind.i64.wrap (Int.ofNat ii + 1) = Int.ofNat (ii + 1),
 (0 : Nat) = 0,
 S.length = S.length,
 (none : Option Nat) = none,
 false = false,
 S.length ≤ S.length,
 entF (entAt S) = entF (entAt S) ∧ plainSh eSh = true ∨ ∀ (i : Nat), i < S.length → rowOb eSh 0 (entF (entAt S) i) (entF (entAt S) i),
 ∀ (k : List Int), M k = M k,
 true = true,
 q ≤ q,
 g = g ∧ plainSh [CK.bool] = true ∨ ∀ (i : Nat), i < q → rowOb [CK.bool] 0 (g i) (g i),
 false = false,
 n ≤ n,
 entF E = entF E ∧ plainSh eSh = true ∨ ∀ (i : Nat), i < n → rowOb eSh 0 (entF E i) (entF E i),
 false = false,
 G.length ≤ G.length,
 entF (entAt G) = entF (entAt G) ∧ plainSh eSh = true ∨ ∀ (i : Nat), i < G.length → rowOb eSh 0 (entF (entAt G) i) (entF (entAt G) i),
 false = false,
 S.length ≤ S.length,
 entF (entAt S) = entF (entAt S) ∧ plainSh eSh = true ∨ ∀ (i : Nat), i < S.length → rowOb eSh 0 (entF (entAt S) i) (entF (entAt S) i),
 (and2 (and2 ((entAt G (0 + (swG E (swP q g) ii).length)).1 == (E (0 + ii)).1) (and2 ((entAt G (0 + (swG E (swP q g) ii).length)).2 == (E (0 + ii)).2) (and2 ((entAt G (0 + (swG E (swP q g) ii).length)).3 == (E (0 + ii)).3) true))) (and2 ((entAt G (0 + (swG E (swP q g) ii).length)).4 == (E (0 + ii)).4) (and2 ((entAt G (0 + (swG E (swP q g) ii).length)).5 == (E (0 + ii)).5) (and2 ((entAt G (0 + (swG E (swP q g) ii).length)).6 == (E (0 + ii)).6) true))) == false) = false,
 (0 + ii).blt n = true,
 (ii.blt n && decide (0 ≤ Int.ofNat ii)) = true,
 (0 + (swG E (swP q g) ii).length).blt G.length = true,
 ((swG E (swP q g) ii).length.blt G.length && decide (0 ≤ Int.ofNat (swG E (swP q g) ii).length)) = true,
 decide (Int.ofNat (swG E (swP q g) ii).length ≥ Int.ofNat G.length) = false,
 avBool (g (0 + ii) 0) = true,
 (0 + ii).blt q = true,
 (ii.blt q && decide (0 ≤ Int.ofNat ii)) = true,
 decide (Int.ofNat ii < Int.ofNat q) = true,
 decide (Int.ofNat ii < Int.ofNat n) = true]) := by kernel_rfl
theorem pcb11_1 (m : Nat) (q : Nat) (n : Nat) (f : Nat → Nat → AV) (g : Nat → Nat → AV) (E : Nat → Ent) (E1 : Nat → Ent) (G : List Ent) (S : List Ent) (M : List Int → Option Int) (ii : Nat) : roundB ERp 3000 pcL ((pcU11 m q n f g E E1 G S M).hp) [] (pcT11 q n g E G S M ii) [Hint.b true, Hint.b true, Hint.b false, Hint.node [(4, [Hint.b false])], Hint.b false] (pcT11 q n g E G S M (ii + 1)) =
 some (Ex.norm, [(0 : Nat) = 0,
 q = q,
 (none : Option Nat) = none,
 (0 : Nat) = 0,
 (0 : Nat) = 0,
 (0 : Nat) = 0,
 n = n,
 some n = some n,
 (0 : Nat) = 0,
 G.length = G.length,
 some G.length = some G.length,
 (0 : Nat) = 0,
 S.length = S.length,
 some S.length = some S.length,
 Int.ofNat (swG E (swP q g) ii).length = Int.ofNat (swG E (swP q g) (ii + 1)).length,
 IntKind.i64.wrap (Int.ofNat (swS E (swP q g) ii).length + 1) = Int.ofNat (swS E (swP q g) (ii + 1)).length,
 IntKind.i64.wrap (Int.ofNat ii + 1) = Int.ofNat (ii + 1),
 (0 : Nat) = 0,
 S.length = S.length,
 (none : Option Nat) = none,
 false = false,
 S.length ≤ S.length,
 entF (entAt S) = entF (entAt S) ∧ plainSh eSh = true ∨ ∀ (i : Nat), i < S.length → rowOb eSh 0 (entF (entAt S) i) (entF (entAt S) i),
 ∀ (k : List Int), M k = M k,
 true = true,
 q ≤ q,
 g = g ∧ plainSh [CK.bool] = true ∨ ∀ (i : Nat), i < q → rowOb [CK.bool] 0 (g i) (g i),
 false = false,
 n ≤ n,
 entF E = entF E ∧ plainSh eSh = true ∨ ∀ (i : Nat), i < n → rowOb eSh 0 (entF E i) (entF E i),
 false = false,
 G.length ≤ G.length,
 entF (entAt G) = entF (entAt G) ∧ plainSh eSh = true ∨ ∀ (i : Nat), i < G.length → rowOb eSh 0 (entF (entAt G) i) (entF (entAt G) i),
 false = false,
 S.length ≤ S.length,
 entF (entAt S) = entF (entAt S) ∧ plainSh eSh = true ∨ ∀ (i : Nat), i < S.length → rowOb eSh 0 (entF (entAt S) i) (entF (entAt S) i),
 (and2 (and2 ((entAt S (0 + (swS E (swP q g) ii).length)).1 == (E (0 + ii)).1) (and2 ((entAt S (0 + (swS E (swP q g) ii).length)).2 == (E (0 + ii)).2) (and2 ((entAt S (0 + (swS E (swP q g) ii).length)).3 == (E (0 + ii)).3) true))) (and2 ((entAt S (0 + (swS E (swP q g) ii).length)).4 == (E (0 + ii)).4) (and2 ((entAt S (0 + (swS E (swP q g) ii).length)).5 == (E (0 + ii)).5) (and2 ((entAt S (0 + (swS E (swP q g) ii).length)).6 == (E (0 + ii)).6) true))) == false) = false,
 (0 + ii).blt n = true,
 (ii.blt n && decide (0 ≤ Int.ofNat ii)) = true,
 (0 + (swS E (swP q g) ii).length).blt S.length = true,
 ((swS E (swP q g) ii).length.blt S.length && decide (0 ≤ Int.ofNat (swS E (swP q g) ii).length)) = true,
 decide (Int.ofNat (swS E (swP q g) ii).length ≥ Int.ofNat S.length) = false,
 avBool (g (0 + ii) 0) = false,
 (0 + ii).blt q = true,
 (ii.blt q && decide (0 ≤ Int.ofNat ii)) = true,
 decide (Int.ofNat ii < Int.ofNat q) = true,
 decide (Int.ofNat ii < Int.ofNat n) = true]) := by kernel_rfl
theorem pcc11_1 (m : Nat) (q : Nat) (n : Nat) (f : Nat → Nat → AV) (g : Nat → Nat → AV) (E : Nat → Ent) (E1 : Nat → Ent) (G : List Ent) (S : List Ent) (M : List Int → Option Int) (ii : Nat) : roundB ERp 3000 pcL ((pcU11 m q n f g E E1 G S M).hp) [] (pcT11 q n g E G S M ii) [Hint.b true, Hint.b false, Hint.node [(4, [Hint.b false])], Hint.b false] (pcT11 q n g E G S M (ii + 1)) =
 some (Ex.norm, [(0 : Nat) = 0,
 q = q,
 (none : Option Nat) = none,
 (0 : Nat) = 0,
 (0 : Nat) = 0,
 (0 : Nat) = 0,
 n = n,
 some n = some n,
 (0 : Nat) = 0,
 G.length = G.length,
 some G.length = some G.length,
 (0 : Nat) = 0,
 S.length = S.length,
 some S.length = some S.length,
 Int.ofNat (swG E (swP q g) ii).length = Int.ofNat (swG E (swP q g) (ii + 1)).length,
 IntKind.i64.wrap (Int.ofNat (swS E (swP q g) ii).length + 1) = Int.ofNat (swS E (swP q g) (ii + 1)).length,
 IntKind.i64.wrap (Int.ofNat ii + 1) = Int.ofNat (ii + 1),
 (0 : Nat) = 0,
 S.length = S.length,
 (none : Option Nat) = none,
 false = false,
 S.length ≤ S.length,
 entF (entAt S) = entF (entAt S) ∧ plainSh eSh = true ∨ ∀ (i : Nat), i < S.length → rowOb eSh 0 (entF (entAt S) i) (entF (entAt S) i),
 ∀ (k : List Int), M k = M k,
 true = true,
 q ≤ q,
 g = g ∧ plainSh [CK.bool] = true ∨ ∀ (i : Nat), i < q → rowOb [CK.bool] 0 (g i) (g i),
 false = false,
 n ≤ n,
 entF E = entF E ∧ plainSh eSh = true ∨ ∀ (i : Nat), i < n → rowOb eSh 0 (entF E i) (entF E i),
 false = false,
 G.length ≤ G.length,
 entF (entAt G) = entF (entAt G) ∧ plainSh eSh = true ∨ ∀ (i : Nat), i < G.length → rowOb eSh 0 (entF (entAt G) i) (entF (entAt G) i),
 false = false,
 S.length ≤ S.length,
 entF (entAt S) = entF (entAt S) ∧ plainSh eSh = true ∨ ∀ (i : Nat), i < S.length → rowOb eSh 0 (entF (entAt S) i) (entF (entAt S) i),
 (and2 (and2 ((entAt S (0 + (swS E (swP q g) ii).length)).1 == (E (0 + ii)).1) (and2 ((entAt S (0 + (swS E (swP q g) ii).length)).2 == (E (0 + ii)).2) (and2 ((entAt S (0 + (swS E (swP q g) ii).length)).3 == (E (0 + ii)).3) true))) (and2 ((entAt S (0 + (swS E (swP q g) ii).length)).4 == (E (0 + ii)).4) (and2 ((entAt S (0 + (swS E (swP q g) ii).length)).5 == (E (0 + ii)).5) (and2 ((entAt S (0 + (swS E (swP q g) ii).length)).6 == (E (0 + ii)).6) true))) == false) = false,
 (0 + ii).blt n = true,
 (ii.blt n && decide (0 ≤ Int.ofNat ii)) = true,
 (0 + (swS E (swP q g) ii).length).blt S.length = true,
 ((swS E (swP q g) ii).length.blt S.length && decide (0 ≤ Int.ofNat (swS E (swP q g) ii).length)) = true,
 decide (Int.ofNat (swS E (swP q g) ii).length ≥ Int.ofNat S.length) = false,
 decide (Int.ofNat ii < Int.ofNat q) = false,
 decide (Int.ofNat ii < Int.ofNat n) = true]) := by kernel_rfl
theorem pcx11_1 (m : Nat) (q : Nat) (n : Nat) (f : Nat → Nat → AV) (g : Nat → Nat → AV) (E : Nat → Ent) (E1 : Nat → Ent) (G : List Ent) (S : List Ent) (M : List Int → Option Int) (ii : Nat) : roundB ERp 3000 pcL ((pcU11 m q n f g E E1 G S M).hp) [] (pcT11 q n g E G S M ii) [Hint.b false] (pcX11 q n g E G S M) =
 some (Ex.exit 2, [(0 : Nat) = 0,
 (0 : Nat) = 0,
 (0 : Nat) = 0,
 n = n,
 some n = some n,
 (0 : Nat) = 0,
 G.length = G.length,
 some G.length = some G.length,
 (0 : Nat) = 0,
 S.length = S.length,
 some S.length = some S.length,
 Int.ofNat (swG E (swP q g) ii).length = Int.ofNat G.length,
 Int.ofNat (swS E (swP q g) ii).length = Int.ofNat S.length,
 (0 : Nat) = 0,
 S.length = S.length,
 (none : Option Nat) = none,
 false = false,
 S.length ≤ S.length,
 entF (entAt S) = entF (entAt S) ∧ plainSh eSh = true ∨ ∀ (i : Nat), i < S.length → rowOb eSh 0 (entF (entAt S) i) (entF (entAt S) i),
 ∀ (k : List Int), M k = M k,
 false = false,
 n ≤ n,
 entF E = entF E ∧ plainSh eSh = true ∨ ∀ (i : Nat), i < n → rowOb eSh 0 (entF E i) (entF E i),
 false = false,
 G.length ≤ G.length,
 entF (entAt G) = entF (entAt G) ∧ plainSh eSh = true ∨ ∀ (i : Nat), i < G.length → rowOb eSh 0 (entF (entAt G) i) (entF (entAt G) i),
 false = false,
 S.length ≤ S.length,
 entF (entAt S) = entF (entAt S) ∧ plainSh eSh = true ∨ ∀ (i : Nat), i < S.length → rowOb eSh 0 (entF (entAt S) i) (entF (entAt S) i),
 decide (Int.ofNat ii < Int.ofNat n) = false]) := by kernel_rfl
theorem pci11_1 (m : Nat) (q : Nat) (n : Nat) (f : Nat → Nat → AV) (g : Nat → Nat → AV) (E : Nat → Ent) (E1 : Nat → Ent) (G : List Ent) (S : List Ent) (M : List Int → Option Int) : castSt ((pcU11 m q n f g E E1 G S M).hp) [] (pcU11 m q n f g E E1 G S M) (pcT11 q n g E G S M 0) =
 some ([(0 : Nat) = 0,
 q = q,
 (none : Option Nat) = none,
 (0 : Nat) = 0,
 (0 : Nat) = 0,
 (0 : Nat) = 0,
 n = n,
 some n = some n,
 (0 : Nat) = 0,
 G.length = G.length,
 some G.length = some G.length,
 (0 : Nat) = 0,
 S.length = S.length,
 some S.length = some S.length,
 (0 : Int) = 0,
 (0 : Int) = 0,
 (0 : Int) = 0,
 (0 : Nat) = 0,
 S.length = S.length,
 (none : Option Nat) = none,
 false = false,
 S.length ≤ S.length,
 entF (entAt S) = entF (entAt S) ∧ plainSh eSh = true ∨ ∀ (i : Nat), i < S.length → rowOb eSh 0 (entF (entAt S) i) (entF (entAt S) i),
 ∀ (k : List Int), M k = M k,
 true = true,
 q ≤ q,
 g = g ∧ plainSh [CK.bool] = true ∨ ∀ (i : Nat), i < q → rowOb [CK.bool] 0 (g i) (g i),
 false = false,
 n ≤ n,
 entF E = entF E ∧ plainSh eSh = true ∨ ∀ (i : Nat), i < n → rowOb eSh 0 (entF E i) (entF E i),
 false = false,
 G.length ≤ G.length,
 entF (entAt G) = entF (entAt G) ∧ plainSh eSh = true ∨ ∀ (i : Nat), i < G.length → rowOb eSh 0 (entF (entAt G) i) (entF (entAt G) i),
 false = false,
 S.length ≤ S.length,
 entF (entAt S) = entF (entAt S) ∧ plainSh eSh = true ∨ ∀ (i : Nat), i < S.length → rowOb eSh 0 (entF (entAt S) i) (entF (entAt S) i)]) := by kernel_rfl
theorem pc_lp11 (m : Nat) (q : Nat) (n : Nat) (f : Nat → Nat → AV) (g : Nat → Nat → AV) (E : Nat → Ent) (E1 : Nat → Ent) (G : List Ent) (S : List Ent) (M : List Int → Option Int) (hG : G = swG E (swP q g) n) (hS : S = swS E (swP q g) n) (hlim : n ≤ 1000000) : pcLP11 m q n f g E E1 G S M := by
  refine loop_rule ERp_ok (I := Nat) (fun i => pcT11 q n g E G S M i) (fun i => n - i) (fun i => i ≤ n) ?_ (fun ii hi => ?_)
  ·
    refine ⟨0, [], _, Nat.zero_le _, pci11_1 .., (ob_cons rfl (ob_cons rfl (ob_cons rfl (ob_cons rfl (ob_cons rfl (ob_cons rfl (ob_cons rfl (ob_cons rfl (ob_cons rfl (ob_cons rfl (ob_cons rfl (ob_cons rfl (ob_cons rfl (ob_cons rfl (ob_cons rfl (ob_cons rfl (ob_cons rfl (ob_cons rfl (ob_cons rfl (ob_cons rfl (ob_cons rfl (ob_cons (Nat.le_refl _) (ob_cons (.inl ⟨rfl, rfl⟩) (ob_cons (fun _ => rfl) (ob_cons rfl (ob_cons (Nat.le_refl _) (ob_cons (.inl ⟨rfl, rfl⟩) (ob_cons rfl (ob_cons (Nat.le_refl _) (ob_cons (.inl ⟨rfl, rfl⟩) (ob_cons rfl (ob_cons (Nat.le_refl _) (ob_cons (.inl ⟨rfl, rfl⟩) (ob_cons rfl (ob_cons (Nat.le_refl _) (ob_cons (.inl ⟨rfl, rfl⟩) ob_nil))))))))))))))))))))))))))))))))))))⟩
  have hGl : (swG E (swP q g) ii).length ≤ ii := swG_len _ _ ii
  have hSl : (swS E (swP q g) ii).length ≤ ii := swS_len _ _ ii
  by_cases hin : ii < n
  · cases hp : swP q g ii with
    | true =>
      obtain ⟨hlt, heq⟩ := swG_here E (swP q g) hin hp
      rw [← hG] at hlt heq
      obtain ⟨him, hb⟩ := swP_t hp
      have hq : entAt G (0 + (swG E (swP q g) ii).length) = E (0 + ii) := by rw [Nat.zero_add, Nat.zero_add]; exact heq
      have hg2 : (swG E (swP q g) (ii + 1)).length = (swG E (swP q g) ii).length + 1 := by rw [swG_t hp]; simp
      have hs2 : (swS E (swP q g) (ii + 1)).length = (swS E (swP q g) ii).length := by rw [swS_t hp]
      refine round_norm (s0 := pcU11 m q n f g E E1 G S M) (T := fun i => pcT11 q n g E G S M i) (i := ii) (ii + 1) (pca11_1 m q n f g E E1 G S M ii) (ob_cons rfl (ob_cons rfl (ob_cons rfl (ob_cons rfl (ob_cons rfl (ob_cons rfl (ob_cons rfl (ob_cons rfl (ob_cons rfl (ob_cons rfl (ob_cons rfl (ob_cons rfl (ob_cons rfl (ob_cons rfl (ob_cons ?_ (ob_cons ?_ (ob_cons ?_ (ob_cons rfl (ob_cons rfl (ob_cons rfl (ob_cons rfl (ob_cons (Nat.le_refl _) (ob_cons (.inl ⟨rfl, rfl⟩) (ob_cons (fun _ => rfl) (ob_cons rfl (ob_cons (Nat.le_refl _) (ob_cons (.inl ⟨rfl, rfl⟩) (ob_cons rfl (ob_cons (Nat.le_refl _) (ob_cons (.inl ⟨rfl, rfl⟩) (ob_cons rfl (ob_cons (Nat.le_refl _) (ob_cons (.inl ⟨rfl, rfl⟩) (ob_cons rfl (ob_cons (Nat.le_refl _) (ob_cons (.inl ⟨rfl, rfl⟩) (ob_cons ?_ (ob_cons ?_ (ob_cons ?_ (ob_cons ?_ (ob_cons ?_ (ob_cons ?_ (ob_cons ?_ (ob_cons ?_ (ob_cons ?_ (ob_cons ?_ (ob_cons ?_ ob_nil))))))))))))))))))))))))))))))))))))))))))))))) (by show ii + 1 ≤ n; omega) (by show n - (ii + 1) < n - ii; omega)
      · (rw [hg2]; exact wrap_nat64 _ (by simp; omega) (by simp; omega))
      · (rw [hs2]; done)
      · exact wrap_nat64 _ (by simp; omega) (by simp; omega)
      · (rw [hq]; simp [and2]; done)
      · (simp [Nat.blt_eq]; omega)
      · (simp [Nat.blt_eq]; omega)
      · (simp [Nat.blt_eq]; omega)
      · (simp [Nat.blt_eq]; omega)
      · (simp [Nat.blt_eq]; omega)
      · with_reducible assumption
      · (simp [Nat.blt_eq]; omega)
      · (simp [Nat.blt_eq]; omega)
      · (simp [Nat.blt_eq]; omega)
      · (simp [Nat.blt_eq]; omega)
    | false =>
      obtain ⟨hlt, heq⟩ := swS_here E (swP q g) hin hp
      rw [← hS] at hlt heq
      have hq : entAt S (0 + (swS E (swP q g) ii).length) = E (0 + ii) := by rw [Nat.zero_add, Nat.zero_add]; exact heq
      have hs2 : (swS E (swP q g) (ii + 1)).length = (swS E (swP q g) ii).length + 1 := by rw [swS_f hp]; simp
      have hg2 : (swG E (swP q g) (ii + 1)).length = (swG E (swP q g) ii).length := by rw [swG_f hp]
      by_cases him : ii < q
      · have hb := swP_f hp him
        refine round_norm (s0 := pcU11 m q n f g E E1 G S M) (T := fun i => pcT11 q n g E G S M i) (i := ii) (ii + 1) (pcb11_1 m q n f g E E1 G S M ii) (ob_cons rfl (ob_cons rfl (ob_cons rfl (ob_cons rfl (ob_cons rfl (ob_cons rfl (ob_cons rfl (ob_cons rfl (ob_cons rfl (ob_cons rfl (ob_cons rfl (ob_cons rfl (ob_cons rfl (ob_cons rfl (ob_cons ?_ (ob_cons ?_ (ob_cons ?_ (ob_cons rfl (ob_cons rfl (ob_cons rfl (ob_cons rfl (ob_cons (Nat.le_refl _) (ob_cons (.inl ⟨rfl, rfl⟩) (ob_cons (fun _ => rfl) (ob_cons rfl (ob_cons (Nat.le_refl _) (ob_cons (.inl ⟨rfl, rfl⟩) (ob_cons rfl (ob_cons (Nat.le_refl _) (ob_cons (.inl ⟨rfl, rfl⟩) (ob_cons rfl (ob_cons (Nat.le_refl _) (ob_cons (.inl ⟨rfl, rfl⟩) (ob_cons rfl (ob_cons (Nat.le_refl _) (ob_cons (.inl ⟨rfl, rfl⟩) (ob_cons ?_ (ob_cons ?_ (ob_cons ?_ (ob_cons ?_ (ob_cons ?_ (ob_cons ?_ (ob_cons ?_ (ob_cons ?_ (ob_cons ?_ (ob_cons ?_ (ob_cons ?_ ob_nil))))))))))))))))))))))))))))))))))))))))))))))) (by show ii + 1 ≤ n; omega) (by show n - (ii + 1) < n - ii; omega)
        · (rw [hg2]; done)
        · (rw [hs2]; exact wrap_nat64 _ (by simp; omega) (by simp; omega))
        · exact wrap_nat64 _ (by simp; omega) (by simp; omega)
        · (rw [hq]; simp [and2]; done)
        · (simp [Nat.blt_eq]; omega)
        · (simp [Nat.blt_eq]; omega)
        · (simp [Nat.blt_eq]; omega)
        · (simp [Nat.blt_eq]; omega)
        · (simp [Nat.blt_eq]; omega)
        · with_reducible assumption
        · (simp [Nat.blt_eq]; omega)
        · (simp [Nat.blt_eq]; omega)
        · (simp [Nat.blt_eq]; omega)
        · (simp [Nat.blt_eq]; omega)
      ·
        refine round_norm (s0 := pcU11 m q n f g E E1 G S M) (T := fun i => pcT11 q n g E G S M i) (i := ii) (ii + 1) (pcc11_1 m q n f g E E1 G S M ii) (ob_cons rfl (ob_cons rfl (ob_cons rfl (ob_cons rfl (ob_cons rfl (ob_cons rfl (ob_cons rfl (ob_cons rfl (ob_cons rfl (ob_cons rfl (ob_cons rfl (ob_cons rfl (ob_cons rfl (ob_cons rfl (ob_cons ?_ (ob_cons ?_ (ob_cons ?_ (ob_cons rfl (ob_cons rfl (ob_cons rfl (ob_cons rfl (ob_cons (Nat.le_refl _) (ob_cons (.inl ⟨rfl, rfl⟩) (ob_cons (fun _ => rfl) (ob_cons rfl (ob_cons (Nat.le_refl _) (ob_cons (.inl ⟨rfl, rfl⟩) (ob_cons rfl (ob_cons (Nat.le_refl _) (ob_cons (.inl ⟨rfl, rfl⟩) (ob_cons rfl (ob_cons (Nat.le_refl _) (ob_cons (.inl ⟨rfl, rfl⟩) (ob_cons rfl (ob_cons (Nat.le_refl _) (ob_cons (.inl ⟨rfl, rfl⟩) (ob_cons ?_ (ob_cons ?_ (ob_cons ?_ (ob_cons ?_ (ob_cons ?_ (ob_cons ?_ (ob_cons ?_ (ob_cons ?_ ob_nil)))))))))))))))))))))))))))))))))))))))))))) (by show ii + 1 ≤ n; omega) (by show n - (ii + 1) < n - ii; omega)
        · (rw [hg2]; done)
        · (rw [hs2]; exact wrap_nat64 _ (by simp; omega) (by simp; omega))
        · exact wrap_nat64 _ (by simp; omega) (by simp; omega)
        · (rw [hq]; simp [and2]; done)
        · (simp [Nat.blt_eq]; omega)
        · (simp [Nat.blt_eq]; omega)
        · (simp [Nat.blt_eq]; omega)
        · (simp [Nat.blt_eq]; omega)
        · (simp [Nat.blt_eq]; omega)
        · (simp [Nat.blt_eq]; omega)
        · (simp [Nat.blt_eq]; omega)
  · have hii : n = ii := by have hi : ii ≤ n := hi; omega
    subst hii
    refine round_exit (s0 := pcU11 m q n f g E E1 G S M) (T := fun i => pcT11 q n g E G S M i) (i := n) (pcx11_1 m q n f g E E1 G S M n) (by simp) (ob_cons rfl (ob_cons rfl (ob_cons rfl (ob_cons rfl (ob_cons rfl (ob_cons rfl (ob_cons rfl (ob_cons rfl (ob_cons rfl (ob_cons rfl (ob_cons rfl (ob_cons ?_ (ob_cons ?_ (ob_cons rfl (ob_cons rfl (ob_cons rfl (ob_cons rfl (ob_cons (Nat.le_refl _) (ob_cons (.inl ⟨rfl, rfl⟩) (ob_cons (fun _ => rfl) (ob_cons rfl (ob_cons (Nat.le_refl _) (ob_cons (.inl ⟨rfl, rfl⟩) (ob_cons rfl (ob_cons (Nat.le_refl _) (ob_cons (.inl ⟨rfl, rfl⟩) (ob_cons rfl (ob_cons (Nat.le_refl _) (ob_cons (.inl ⟨rfl, rfl⟩) (ob_cons ?_ ob_nil))))))))))))))))))))))))))))))
    · (rw [hG]; done)
    · (rw [hS]; done)
    · (simp; done)
theorem pca10_1 (m : Nat) (q : Nat) (n : Nat) (f : Nat → Nat → AV) (g : Nat → Nat → AV) (E : Nat → Ent) (E1 : Nat → Ent) (G : List Ent) (S : List Ent) (M : List Int → Option Int) (ii : Nat) : roundB ERp 3000 pcL ((pcU10 m q n f g E E1 G S M).hp) [] (pcT10 q n g E G S M ii) [Hint.b true, Hint.b true, Hint.b true, Hint.node [(4, [Hint.b false])], Hint.b false] (pcT10 q n g E G S M (ii + 1)) =
 some (Ex.norm, [(0 : Nat) = 0,
 q = q,
 (none : Option Nat) = none,
 (0 : Nat) = 0,
 (0 : Nat) = 0,
 (0 : Nat) = 0,
 n = n,
 some n = some n,
 (0 : Nat) = 0,
 G.length = G.length,
 some G.length = some G.length,
 IntKind.i64.wrap (Int.ofNat (swG E (swP q g) ii).length + 1) = Int.ofNat (swG E (swP q g) (ii + 1)).length,
 Int.ofNat (swS E (swP q g) ii).length = Int.ofNat (swS E (swP q g) (ii + 1)).length,
 IntKind.i64.wrap (Int.ofNat ii + 1) = Int.ofNat (ii + 1),
 ∀ (k : List Int), M k = M k,
 true = true,
 q ≤ q,
 g = g ∧ plainSh [CK.bool] = true ∨ ∀ (i : Nat), i < q → rowOb [CK.bool] 0 (g i) (g i),
 false = false,
 n ≤ n,
 entF E = entF E ∧ plainSh eSh = true ∨ ∀ (i : Nat), i < n → rowOb eSh 0 (entF E i) (entF E i),
 false = false,
 G.length ≤ G.length,
 entF (entAt G) = entF (entAt G) ∧ plainSh eSh = true ∨ ∀ (i : Nat), i < G.length → rowOb eSh 0 (entF (entAt G) i) (entF (entAt G) i),
 (and2 (and2 ((entAt G (0 + (swG E (swP q g) ii).length)).1 == (E (0 + ii)).1) (and2 ((entAt G (0 + (swG E (swP q g) ii).length)).2 == (E (0 + ii)).2) (and2 ((entAt G (0 + (swG E (swP q g) ii).length)).3 == (E (0 + ii)).3) true))) (and2 ((entAt G (0 + (swG E (swP q g) ii).length)).4 == (E (0 + ii)).4) (and2 ((entAt G (0 + (swG E (swP q g) ii).length)).5 == (E (0 + ii)).5) (and2 ((entAt G (0 + (swG E (swP q g) ii).length)).6 == (E (0 + ii)).6) true))) == false) = false,
 (0 + ii).blt n = true,
 (ii.blt n && decide (0 ≤ Int.ofNat ii)) = true,
 (0 + (swG E (swP q g) ii).length).blt G.length = true,
 ((swG E (swP q g) ii).length.blt G.length && decide (0 ≤ Int.ofNat (swG E (swP q g) ii).length)) = true,
 decide (Int.ofNat (swG E (swP q g) ii).length ≥ Int.ofNat G.length) = false,
 avBool (g (0 + ii) 0) = true,
 (0 + ii).blt q = true,
 (ii.blt q && decide (0 ≤ Int.ofNat ii)) = true,
 decide (Int.ofNat ii < Int.ofNat q) = true,
 decide (Int.ofNat ii < Int.ofNat n) = true]) := by kernel_rfl
theorem pcx10_1 (m : Nat) (q : Nat) (n : Nat) (f : Nat → Nat → AV) (g : Nat → Nat → AV) (E : Nat → Ent) (E1 : Nat → Ent) (G : List Ent) (S : List Ent) (M : List Int → Option Int) (ii : Nat) : roundB ERp 3000 pcL ((pcU10 m q n f g E E1 G S M).hp) [] (pcT10 q n g E G S M ii) [Hint.b false] (pcX10 q n g E G S M) =
 some (Ex.exit 2, [(0 : Nat) = 0,
 (0 : Nat) = 0,
 (0 : Nat) = 0,
 n = n,
 some n = some n,
 (0 : Nat) = 0,
 G.length = G.length,
 some G.length = some G.length,
 Int.ofNat (swG E (swP q g) ii).length = Int.ofNat G.length,
 Int.ofNat (swS E (swP q g) ii).length = Int.ofNat S.length,
 ∀ (k : List Int), M k = M k,
 false = false,
 n ≤ n,
 entF E = entF E ∧ plainSh eSh = true ∨ ∀ (i : Nat), i < n → rowOb eSh 0 (entF E i) (entF E i),
 false = false,
 G.length ≤ G.length,
 entF (entAt G) = entF (entAt G) ∧ plainSh eSh = true ∨ ∀ (i : Nat), i < G.length → rowOb eSh 0 (entF (entAt G) i) (entF (entAt G) i),
 decide (Int.ofNat ii < Int.ofNat n) = false]) := by kernel_rfl
theorem pci10_1 (m : Nat) (q : Nat) (n : Nat) (f : Nat → Nat → AV) (g : Nat → Nat → AV) (E : Nat → Ent) (E1 : Nat → Ent) (G : List Ent) (S : List Ent) (M : List Int → Option Int) : castSt ((pcU10 m q n f g E E1 G S M).hp) [] (pcU10 m q n f g E E1 G S M) (pcT10 q n g E G S M 0) =
 some ([(0 : Nat) = 0,
 q = q,
 (none : Option Nat) = none,
 (0 : Nat) = 0,
 (0 : Nat) = 0,
 (0 : Nat) = 0,
 n = n,
 some n = some n,
 (0 : Nat) = 0,
 G.length = G.length,
 some G.length = some G.length,
 (0 : Int) = 0,
 (0 : Int) = 0,
 (0 : Int) = 0,
 ∀ (k : List Int), M k = M k,
 true = true,
 q ≤ q,
 g = g ∧ plainSh [CK.bool] = true ∨ ∀ (i : Nat), i < q → rowOb [CK.bool] 0 (g i) (g i),
 false = false,
 n ≤ n,
 entF E = entF E ∧ plainSh eSh = true ∨ ∀ (i : Nat), i < n → rowOb eSh 0 (entF E i) (entF E i),
 false = false,
 G.length ≤ G.length,
 entF (entAt G) = entF (entAt G) ∧ plainSh eSh = true ∨ ∀ (i : Nat), i < G.length → rowOb eSh 0 (entF (entAt G) i) (entF (entAt G) i)]) := by kernel_rfl
theorem pc_lp10 (m : Nat) (q : Nat) (n : Nat) (f : Nat → Nat → AV) (g : Nat → Nat → AV) (E : Nat → Ent) (E1 : Nat → Ent) (G : List Ent) (S : List Ent) (M : List Int → Option Int) (hG : G = swG E (swP q g) n) (hS : S = swS E (swP q g) n) (hS0 : S = []) (hlim : n ≤ 1000000) : pcLP10 m q n f g E E1 G S M := by
  refine loop_rule ERp_ok (I := Nat) (fun i => pcT10 q n g E G S M i) (fun i => n - i) (fun i => i ≤ n) ?_ (fun ii hi => ?_)
  ·
    refine ⟨0, [], _, Nat.zero_le _, pci10_1 .., (ob_cons rfl (ob_cons rfl (ob_cons rfl (ob_cons rfl (ob_cons rfl (ob_cons rfl (ob_cons rfl (ob_cons rfl (ob_cons rfl (ob_cons rfl (ob_cons rfl (ob_cons rfl (ob_cons rfl (ob_cons rfl (ob_cons (fun _ => rfl) (ob_cons rfl (ob_cons (Nat.le_refl _) (ob_cons (.inl ⟨rfl, rfl⟩) (ob_cons rfl (ob_cons (Nat.le_refl _) (ob_cons (.inl ⟨rfl, rfl⟩) (ob_cons rfl (ob_cons (Nat.le_refl _) (ob_cons (.inl ⟨rfl, rfl⟩) ob_nil))))))))))))))))))))))))⟩
  have hGl : (swG E (swP q g) ii).length ≤ ii := swG_len _ _ ii
  have hSl : (swS E (swP q g) ii).length ≤ ii := swS_len _ _ ii
  by_cases hin : ii < n
  · cases hp : swP q g ii with
    | true =>
      obtain ⟨hlt, heq⟩ := swG_here E (swP q g) hin hp
      rw [← hG] at hlt heq
      obtain ⟨him, hb⟩ := swP_t hp
      have hq : entAt G (0 + (swG E (swP q g) ii).length) = E (0 + ii) := by rw [Nat.zero_add, Nat.zero_add]; exact heq
      have hg2 : (swG E (swP q g) (ii + 1)).length = (swG E (swP q g) ii).length + 1 := by rw [swG_t hp]; simp
      have hs2 : (swS E (swP q g) (ii + 1)).length = (swS E (swP q g) ii).length := by rw [swS_t hp]
      refine round_norm (s0 := pcU10 m q n f g E E1 G S M) (T := fun i => pcT10 q n g E G S M i) (i := ii) (ii + 1) (pca10_1 m q n f g E E1 G S M ii) (ob_cons rfl (ob_cons rfl (ob_cons rfl (ob_cons rfl (ob_cons rfl (ob_cons rfl (ob_cons rfl (ob_cons rfl (ob_cons rfl (ob_cons rfl (ob_cons rfl (ob_cons ?_ (ob_cons ?_ (ob_cons ?_ (ob_cons (fun _ => rfl) (ob_cons rfl (ob_cons (Nat.le_refl _) (ob_cons (.inl ⟨rfl, rfl⟩) (ob_cons rfl (ob_cons (Nat.le_refl _) (ob_cons (.inl ⟨rfl, rfl⟩) (ob_cons rfl (ob_cons (Nat.le_refl _) (ob_cons (.inl ⟨rfl, rfl⟩) (ob_cons ?_ (ob_cons ?_ (ob_cons ?_ (ob_cons ?_ (ob_cons ?_ (ob_cons ?_ (ob_cons ?_ (ob_cons ?_ (ob_cons ?_ (ob_cons ?_ (ob_cons ?_ ob_nil))))))))))))))))))))))))))))))))))) (by show ii + 1 ≤ n; omega) (by show n - (ii + 1) < n - ii; omega)
      · (rw [hg2]; exact wrap_nat64 _ (by simp; omega) (by simp; omega))
      · (rw [hs2]; done)
      · exact wrap_nat64 _ (by simp; omega) (by simp; omega)
      · (rw [hq]; simp [and2]; done)
      · (simp [Nat.blt_eq]; omega)
      · (simp [Nat.blt_eq]; omega)
      · (simp [Nat.blt_eq]; omega)
      · (simp [Nat.blt_eq]; omega)
      · (simp [Nat.blt_eq]; omega)
      · with_reducible assumption
      · (simp [Nat.blt_eq]; omega)
      · (simp [Nat.blt_eq]; omega)
      · (simp [Nat.blt_eq]; omega)
      · (simp [Nat.blt_eq]; omega)
    | false =>
      obtain ⟨hlt, heq⟩ := swS_here E (swP q g) hin hp
      rw [← hS] at hlt heq
      rw [hS0] at hlt; exact absurd hlt (Nat.not_lt_zero _)
  · have hii : n = ii := by have hi : ii ≤ n := hi; omega
    subst hii
    refine round_exit (s0 := pcU10 m q n f g E E1 G S M) (T := fun i => pcT10 q n g E G S M i) (i := n) (pcx10_1 m q n f g E E1 G S M n) (by simp) (ob_cons rfl (ob_cons rfl (ob_cons rfl (ob_cons rfl (ob_cons rfl (ob_cons rfl (ob_cons rfl (ob_cons rfl (ob_cons ?_ (ob_cons ?_ (ob_cons (fun _ => rfl) (ob_cons rfl (ob_cons (Nat.le_refl _) (ob_cons (.inl ⟨rfl, rfl⟩) (ob_cons rfl (ob_cons (Nat.le_refl _) (ob_cons (.inl ⟨rfl, rfl⟩) (ob_cons ?_ ob_nil))))))))))))))))))
    · (rw [hG]; done)
    · (rw [hS]; done)
    · (simp; done)
theorem pcb01_1 (m : Nat) (q : Nat) (n : Nat) (f : Nat → Nat → AV) (g : Nat → Nat → AV) (E : Nat → Ent) (E1 : Nat → Ent) (G : List Ent) (S : List Ent) (M : List Int → Option Int) (ii : Nat) : roundB ERp 3000 pcL ((pcU01 m q n f g E E1 G S M).hp) [] (pcT01 q n g E G S M ii) [Hint.b true, Hint.b true, Hint.b false, Hint.node [(4, [Hint.b false])], Hint.b false] (pcT01 q n g E G S M (ii + 1)) =
 some (Ex.norm, [(0 : Nat) = 0,
 q = q,
 (none : Option Nat) = none,
 (0 : Nat) = 0,
 (0 : Nat) = 0,
 (0 : Nat) = 0,
 n = n,
 some n = some n,
 (0 : Nat) = 0,
 S.length = S.length,
 some S.length = some S.length,
 Int.ofNat (swG E (swP q g) ii).length = Int.ofNat (swG E (swP q g) (ii + 1)).length,
 IntKind.i64.wrap (Int.ofNat (swS E (swP q g) ii).length + 1) = Int.ofNat (swS E (swP q g) (ii + 1)).length,
 IntKind.i64.wrap (Int.ofNat ii + 1) = Int.ofNat (ii + 1),
 (0 : Nat) = 0,
 S.length = S.length,
 (none : Option Nat) = none,
 false = false,
 S.length ≤ S.length,
 entF (entAt S) = entF (entAt S) ∧ plainSh eSh = true ∨ ∀ (i : Nat), i < S.length → rowOb eSh 0 (entF (entAt S) i) (entF (entAt S) i),
 ∀ (k : List Int), M k = M k,
 true = true,
 q ≤ q,
 g = g ∧ plainSh [CK.bool] = true ∨ ∀ (i : Nat), i < q → rowOb [CK.bool] 0 (g i) (g i),
 false = false,
 n ≤ n,
 entF E = entF E ∧ plainSh eSh = true ∨ ∀ (i : Nat), i < n → rowOb eSh 0 (entF E i) (entF E i),
 false = false,
 S.length ≤ S.length,
 entF (entAt S) = entF (entAt S) ∧ plainSh eSh = true ∨ ∀ (i : Nat), i < S.length → rowOb eSh 0 (entF (entAt S) i) (entF (entAt S) i),
 (and2 (and2 ((entAt S (0 + (swS E (swP q g) ii).length)).1 == (E (0 + ii)).1) (and2 ((entAt S (0 + (swS E (swP q g) ii).length)).2 == (E (0 + ii)).2) (and2 ((entAt S (0 + (swS E (swP q g) ii).length)).3 == (E (0 + ii)).3) true))) (and2 ((entAt S (0 + (swS E (swP q g) ii).length)).4 == (E (0 + ii)).4) (and2 ((entAt S (0 + (swS E (swP q g) ii).length)).5 == (E (0 + ii)).5) (and2 ((entAt S (0 + (swS E (swP q g) ii).length)).6 == (E (0 + ii)).6) true))) == false) = false,
 (0 + ii).blt n = true,
 (ii.blt n && decide (0 ≤ Int.ofNat ii)) = true,
 (0 + (swS E (swP q g) ii).length).blt S.length = true,
 ((swS E (swP q g) ii).length.blt S.length && decide (0 ≤ Int.ofNat (swS E (swP q g) ii).length)) = true,
 decide (Int.ofNat (swS E (swP q g) ii).length ≥ Int.ofNat S.length) = false,
 avBool (g (0 + ii) 0) = false,
 (0 + ii).blt q = true,
 (ii.blt q && decide (0 ≤ Int.ofNat ii)) = true,
 decide (Int.ofNat ii < Int.ofNat q) = true,
 decide (Int.ofNat ii < Int.ofNat n) = true]) := by kernel_rfl
theorem pcc01_1 (m : Nat) (q : Nat) (n : Nat) (f : Nat → Nat → AV) (g : Nat → Nat → AV) (E : Nat → Ent) (E1 : Nat → Ent) (G : List Ent) (S : List Ent) (M : List Int → Option Int) (ii : Nat) : roundB ERp 3000 pcL ((pcU01 m q n f g E E1 G S M).hp) [] (pcT01 q n g E G S M ii) [Hint.b true, Hint.b false, Hint.node [(4, [Hint.b false])], Hint.b false] (pcT01 q n g E G S M (ii + 1)) =
 some (Ex.norm, [(0 : Nat) = 0,
 q = q,
 (none : Option Nat) = none,
 (0 : Nat) = 0,
 (0 : Nat) = 0,
 (0 : Nat) = 0,
 n = n,
 some n = some n,
 (0 : Nat) = 0,
 S.length = S.length,
 some S.length = some S.length,
 Int.ofNat (swG E (swP q g) ii).length = Int.ofNat (swG E (swP q g) (ii + 1)).length,
 IntKind.i64.wrap (Int.ofNat (swS E (swP q g) ii).length + 1) = Int.ofNat (swS E (swP q g) (ii + 1)).length,
 IntKind.i64.wrap (Int.ofNat ii + 1) = Int.ofNat (ii + 1),
 (0 : Nat) = 0,
 S.length = S.length,
 (none : Option Nat) = none,
 false = false,
 S.length ≤ S.length,
 entF (entAt S) = entF (entAt S) ∧ plainSh eSh = true ∨ ∀ (i : Nat), i < S.length → rowOb eSh 0 (entF (entAt S) i) (entF (entAt S) i),
 ∀ (k : List Int), M k = M k,
 true = true,
 q ≤ q,
 g = g ∧ plainSh [CK.bool] = true ∨ ∀ (i : Nat), i < q → rowOb [CK.bool] 0 (g i) (g i),
 false = false,
 n ≤ n,
 entF E = entF E ∧ plainSh eSh = true ∨ ∀ (i : Nat), i < n → rowOb eSh 0 (entF E i) (entF E i),
 false = false,
 S.length ≤ S.length,
 entF (entAt S) = entF (entAt S) ∧ plainSh eSh = true ∨ ∀ (i : Nat), i < S.length → rowOb eSh 0 (entF (entAt S) i) (entF (entAt S) i),
 (and2 (and2 ((entAt S (0 + (swS E (swP q g) ii).length)).1 == (E (0 + ii)).1) (and2 ((entAt S (0 + (swS E (swP q g) ii).length)).2 == (E (0 + ii)).2) (and2 ((entAt S (0 + (swS E (swP q g) ii).length)).3 == (E (0 + ii)).3) true))) (and2 ((entAt S (0 + (swS E (swP q g) ii).length)).4 == (E (0 + ii)).4) (and2 ((entAt S (0 + (swS E (swP q g) ii).length)).5 == (E (0 + ii)).5) (and2 ((entAt S (0 + (swS E (swP q g) ii).length)).6 == (E (0 + ii)).6) true))) == false) = false,
 (0 + ii).blt n = true,
 (ii.blt n && decide (0 ≤ Int.ofNat ii)) = true,
 (0 + (swS E (swP q g) ii).length).blt S.length = true,
 ((swS E (swP q g) ii).length.blt S.length && decide (0 ≤ Int.ofNat (swS E (swP q g) ii).length)) = true,
 decide (Int.ofNat (swS E (swP q g) ii).length ≥ Int.ofNat S.length) = false,
 decide (Int.ofNat ii < Int.ofNat q) = false,
 decide (Int.ofNat ii < Int.ofNat n) = true]) := by kernel_rfl
theorem pcx01_1 (m : Nat) (q : Nat) (n : Nat) (f : Nat → Nat → AV) (g : Nat → Nat → AV) (E : Nat → Ent) (E1 : Nat → Ent) (G : List Ent) (S : List Ent) (M : List Int → Option Int) (ii : Nat) : roundB ERp 3000 pcL ((pcU01 m q n f g E E1 G S M).hp) [] (pcT01 q n g E G S M ii) [Hint.b false] (pcX01 q n g E G S M) =
 some (Ex.exit 2, [(0 : Nat) = 0,
 (0 : Nat) = 0,
 (0 : Nat) = 0,
 n = n,
 some n = some n,
 (0 : Nat) = 0,
 S.length = S.length,
 some S.length = some S.length,
 Int.ofNat (swG E (swP q g) ii).length = Int.ofNat G.length,
 Int.ofNat (swS E (swP q g) ii).length = Int.ofNat S.length,
 (0 : Nat) = 0,
 S.length = S.length,
 (none : Option Nat) = none,
 false = false,
 S.length ≤ S.length,
 entF (entAt S) = entF (entAt S) ∧ plainSh eSh = true ∨ ∀ (i : Nat), i < S.length → rowOb eSh 0 (entF (entAt S) i) (entF (entAt S) i),
 ∀ (k : List Int), M k = M k,
 false = false,
 n ≤ n,
 entF E = entF E ∧ plainSh eSh = true ∨ ∀ (i : Nat), i < n → rowOb eSh 0 (entF E i) (entF E i),
 false = false,
 S.length ≤ S.length,
 entF (entAt S) = entF (entAt S) ∧ plainSh eSh = true ∨ ∀ (i : Nat), i < S.length → rowOb eSh 0 (entF (entAt S) i) (entF (entAt S) i),
 decide (Int.ofNat ii < Int.ofNat n) = false]) := by kernel_rfl
theorem pci01_1 (m : Nat) (q : Nat) (n : Nat) (f : Nat → Nat → AV) (g : Nat → Nat → AV) (E : Nat → Ent) (E1 : Nat → Ent) (G : List Ent) (S : List Ent) (M : List Int → Option Int) : castSt ((pcU01 m q n f g E E1 G S M).hp) [] (pcU01 m q n f g E E1 G S M) (pcT01 q n g E G S M 0) =
 some ([(0 : Nat) = 0,
 q = q,
 (none : Option Nat) = none,
 (0 : Nat) = 0,
 (0 : Nat) = 0,
 (0 : Nat) = 0,
 n = n,
 some n = some n,
 (0 : Nat) = 0,
 S.length = S.length,
 some S.length = some S.length,
 (0 : Int) = 0,
 (0 : Int) = 0,
 (0 : Int) = 0,
 (0 : Nat) = 0,
 S.length = S.length,
 (none : Option Nat) = none,
 false = false,
 S.length ≤ S.length,
 entF (entAt S) = entF (entAt S) ∧ plainSh eSh = true ∨ ∀ (i : Nat), i < S.length → rowOb eSh 0 (entF (entAt S) i) (entF (entAt S) i),
 ∀ (k : List Int), M k = M k,
 true = true,
 q ≤ q,
 g = g ∧ plainSh [CK.bool] = true ∨ ∀ (i : Nat), i < q → rowOb [CK.bool] 0 (g i) (g i),
 false = false,
 n ≤ n,
 entF E = entF E ∧ plainSh eSh = true ∨ ∀ (i : Nat), i < n → rowOb eSh 0 (entF E i) (entF E i),
 false = false,
 S.length ≤ S.length,
 entF (entAt S) = entF (entAt S) ∧ plainSh eSh = true ∨ ∀ (i : Nat), i < S.length → rowOb eSh 0 (entF (entAt S) i) (entF (entAt S) i)]) := by kernel_rfl
theorem pc_lp01 (m : Nat) (q : Nat) (n : Nat) (f : Nat → Nat → AV) (g : Nat → Nat → AV) (E : Nat → Ent) (E1 : Nat → Ent) (G : List Ent) (S : List Ent) (M : List Int → Option Int) (hG : G = swG E (swP q g) n) (hS : S = swS E (swP q g) n) (hG0 : G = []) (hlim : n ≤ 1000000) : pcLP01 m q n f g E E1 G S M := by
  refine loop_rule ERp_ok (I := Nat) (fun i => pcT01 q n g E G S M i) (fun i => n - i) (fun i => i ≤ n) ?_ (fun ii hi => ?_)
  ·
    refine ⟨0, [], _, Nat.zero_le _, pci01_1 .., (ob_cons rfl (ob_cons rfl (ob_cons rfl (ob_cons rfl (ob_cons rfl (ob_cons rfl (ob_cons rfl (ob_cons rfl (ob_cons rfl (ob_cons rfl (ob_cons rfl (ob_cons rfl (ob_cons rfl (ob_cons rfl (ob_cons rfl (ob_cons rfl (ob_cons rfl (ob_cons rfl (ob_cons (Nat.le_refl _) (ob_cons (.inl ⟨rfl, rfl⟩) (ob_cons (fun _ => rfl) (ob_cons rfl (ob_cons (Nat.le_refl _) (ob_cons (.inl ⟨rfl, rfl⟩) (ob_cons rfl (ob_cons (Nat.le_refl _) (ob_cons (.inl ⟨rfl, rfl⟩) (ob_cons rfl (ob_cons (Nat.le_refl _) (ob_cons (.inl ⟨rfl, rfl⟩) ob_nil))))))))))))))))))))))))))))))⟩
  have hGl : (swG E (swP q g) ii).length ≤ ii := swG_len _ _ ii
  have hSl : (swS E (swP q g) ii).length ≤ ii := swS_len _ _ ii
  by_cases hin : ii < n
  · cases hp : swP q g ii with
    | true =>
      obtain ⟨hlt, heq⟩ := swG_here E (swP q g) hin hp
      rw [← hG] at hlt heq
      rw [hG0] at hlt; exact absurd hlt (Nat.not_lt_zero _)
    | false =>
      obtain ⟨hlt, heq⟩ := swS_here E (swP q g) hin hp
      rw [← hS] at hlt heq
      have hq : entAt S (0 + (swS E (swP q g) ii).length) = E (0 + ii) := by rw [Nat.zero_add, Nat.zero_add]; exact heq
      have hs2 : (swS E (swP q g) (ii + 1)).length = (swS E (swP q g) ii).length + 1 := by rw [swS_f hp]; simp
      have hg2 : (swG E (swP q g) (ii + 1)).length = (swG E (swP q g) ii).length := by rw [swG_f hp]
      by_cases him : ii < q
      · have hb := swP_f hp him
        refine round_norm (s0 := pcU01 m q n f g E E1 G S M) (T := fun i => pcT01 q n g E G S M i) (i := ii) (ii + 1) (pcb01_1 m q n f g E E1 G S M ii) (ob_cons rfl (ob_cons rfl (ob_cons rfl (ob_cons rfl (ob_cons rfl (ob_cons rfl (ob_cons rfl (ob_cons rfl (ob_cons rfl (ob_cons rfl (ob_cons rfl (ob_cons ?_ (ob_cons ?_ (ob_cons ?_ (ob_cons rfl (ob_cons rfl (ob_cons rfl (ob_cons rfl (ob_cons (Nat.le_refl _) (ob_cons (.inl ⟨rfl, rfl⟩) (ob_cons (fun _ => rfl) (ob_cons rfl (ob_cons (Nat.le_refl _) (ob_cons (.inl ⟨rfl, rfl⟩) (ob_cons rfl (ob_cons (Nat.le_refl _) (ob_cons (.inl ⟨rfl, rfl⟩) (ob_cons rfl (ob_cons (Nat.le_refl _) (ob_cons (.inl ⟨rfl, rfl⟩) (ob_cons ?_ (ob_cons ?_ (ob_cons ?_ (ob_cons ?_ (ob_cons ?_ (ob_cons ?_ (ob_cons ?_ (ob_cons ?_ (ob_cons ?_ (ob_cons ?_ (ob_cons ?_ ob_nil))))))))))))))))))))))))))))))))))))))))) (by show ii + 1 ≤ n; omega) (by show n - (ii + 1) < n - ii; omega)
        · (rw [hg2]; done)
        · (rw [hs2]; exact wrap_nat64 _ (by simp; omega) (by simp; omega))
        · exact wrap_nat64 _ (by simp; omega) (by simp; omega)
        · (rw [hq]; simp [and2]; done)
        · (simp [Nat.blt_eq]; omega)
        · (simp [Nat.blt_eq]; omega)
        · (simp [Nat.blt_eq]; omega)
        · (simp [Nat.blt_eq]; omega)
        · (simp [Nat.blt_eq]; omega)
        · with_reducible assumption
        · (simp [Nat.blt_eq]; omega)
        · (simp [Nat.blt_eq]; omega)
        · (simp [Nat.blt_eq]; omega)
        · (simp [Nat.blt_eq]; omega)
      ·
        refine round_norm (s0 := pcU01 m q n f g E E1 G S M) (T := fun i => pcT01 q n g E G S M i) (i := ii) (ii + 1) (pcc01_1 m q n f g E E1 G S M ii) (ob_cons rfl (ob_cons rfl (ob_cons rfl (ob_cons rfl (ob_cons rfl (ob_cons rfl (ob_cons rfl (ob_cons rfl (ob_cons rfl (ob_cons rfl (ob_cons rfl (ob_cons ?_ (ob_cons ?_ (ob_cons ?_ (ob_cons rfl (ob_cons rfl (ob_cons rfl (ob_cons rfl (ob_cons (Nat.le_refl _) (ob_cons (.inl ⟨rfl, rfl⟩) (ob_cons (fun _ => rfl) (ob_cons rfl (ob_cons (Nat.le_refl _) (ob_cons (.inl ⟨rfl, rfl⟩) (ob_cons rfl (ob_cons (Nat.le_refl _) (ob_cons (.inl ⟨rfl, rfl⟩) (ob_cons rfl (ob_cons (Nat.le_refl _) (ob_cons (.inl ⟨rfl, rfl⟩) (ob_cons ?_ (ob_cons ?_ (ob_cons ?_ (ob_cons ?_ (ob_cons ?_ (ob_cons ?_ (ob_cons ?_ (ob_cons ?_ ob_nil)))))))))))))))))))))))))))))))))))))) (by show ii + 1 ≤ n; omega) (by show n - (ii + 1) < n - ii; omega)
        · (rw [hg2]; done)
        · (rw [hs2]; exact wrap_nat64 _ (by simp; omega) (by simp; omega))
        · exact wrap_nat64 _ (by simp; omega) (by simp; omega)
        · (rw [hq]; simp [and2]; done)
        · (simp [Nat.blt_eq]; omega)
        · (simp [Nat.blt_eq]; omega)
        · (simp [Nat.blt_eq]; omega)
        · (simp [Nat.blt_eq]; omega)
        · (simp [Nat.blt_eq]; omega)
        · (simp [Nat.blt_eq]; omega)
        · (simp [Nat.blt_eq]; omega)
  · have hii : n = ii := by have hi : ii ≤ n := hi; omega
    subst hii
    refine round_exit (s0 := pcU01 m q n f g E E1 G S M) (T := fun i => pcT01 q n g E G S M i) (i := n) (pcx01_1 m q n f g E E1 G S M n) (by simp) (ob_cons rfl (ob_cons rfl (ob_cons rfl (ob_cons rfl (ob_cons rfl (ob_cons rfl (ob_cons rfl (ob_cons rfl (ob_cons ?_ (ob_cons ?_ (ob_cons rfl (ob_cons rfl (ob_cons rfl (ob_cons rfl (ob_cons (Nat.le_refl _) (ob_cons (.inl ⟨rfl, rfl⟩) (ob_cons (fun _ => rfl) (ob_cons rfl (ob_cons (Nat.le_refl _) (ob_cons (.inl ⟨rfl, rfl⟩) (ob_cons rfl (ob_cons (Nat.le_refl _) (ob_cons (.inl ⟨rfl, rfl⟩) (ob_cons ?_ ob_nil))))))))))))))))))))))))
    · (rw [hG]; done)
    · (rw [hS]; done)
    · (simp; done)
end Go.Proofs.Ytmlfmmnnbdlabaa
