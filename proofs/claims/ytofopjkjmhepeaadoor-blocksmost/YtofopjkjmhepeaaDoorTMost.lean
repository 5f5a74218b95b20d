/-
  BlocksMost: its loops.
-/
import Derived.Test.YtofopjkjmhepeaaDoorTMostDef
set_option linter.unusedSimpArgs false
set_option linter.unusedVariables false
namespace Go.Proofs.YtofopjkjmhepeaaDoor
open Go.Ev
theorem bm1_2 (come gone n : Int) (ii : Nat) (S : MS) (n0 : Int) (S0 : MS) : roundB EM 2000 lcM1 ((bmUp come gone n0 S0).hp) [] (bmT come gone ii n S) [Hint.b true, Hint.b false, Hint.b true, Hint.b false] (bmT come gone (ii + 1) (bmU n) (moreA S)) =
 some (Ex.norm, [come = come,
 gone = gone,
 (if 4 < IntKind.i64.wrap (n + 1) then 4 else IntKind.i64.wrap (n + 1)) = bmU n,
 (0 : Nat) = 0,
 (0 : Nat) = 0,
 IntKind.i64.wrap (Int.ofNat ii + 1) = Int.ofNat (ii + 1),
 (moreA { M := S.M, st := S.st, L := { c := S.L.c, k := S.L.k, a := S.L.a, f := S.L.f, w := S.L.w, i := S.L.i, d := S.L.d } }).st = (moreA S).st,
 (moreA { M := S.M, st := S.st, L := { c := S.L.c, k := S.L.k, a := S.L.a, f := S.L.f, w := S.L.w, i := S.L.i, d := S.L.d } }).L.c = (moreA S).L.c,
 (moreA { M := S.M, st := S.st, L := { c := S.L.c, k := S.L.k, a := S.L.a, f := S.L.f, w := S.L.w, i := S.L.i, d := S.L.d } }).L.k = (moreA S).L.k,
 (moreA { M := S.M, st := S.st, L := { c := S.L.c, k := S.L.k, a := S.L.a, f := S.L.f, w := S.L.w, i := S.L.i, d := S.L.d } }).L.a = (moreA S).L.a,
 (moreA { M := S.M, st := S.st, L := { c := S.L.c, k := S.L.k, a := S.L.a, f := S.L.f, w := S.L.w, i := S.L.i, d := S.L.d } }).L.f = (moreA S).L.f,
 (moreA { M := S.M, st := S.st, L := { c := S.L.c, k := S.L.k, a := S.L.a, f := S.L.f, w := S.L.w, i := S.L.i, d := S.L.d } }).L.w = (moreA S).L.w,
 (moreA { M := S.M, st := S.st, L := { c := S.L.c, k := S.L.k, a := S.L.a, f := S.L.f, w := S.L.w, i := S.L.i, d := S.L.d } }).L.i = (moreA S).L.i,
 (moreA { M := S.M, st := S.st, L := { c := S.L.c, k := S.L.k, a := S.L.a, f := S.L.f, w := S.L.w, i := S.L.i, d := S.L.d } }).L.d = (moreA S).L.d,
 ∀ (k : List Int), (moreA { M := S.M, st := S.st, L := { c := S.L.c, k := S.L.k, a := S.L.a, f := S.L.f, w := S.L.w, i := S.L.i, d := S.L.d } }).M k = (moreA S).M k,
 true = true,
 (1 : Nat) ≤ (1 : Nat),
 tabF tab = tabF tab ∧ plainSh (List.map kindOfV tab) = true ∨ ∀ (i : Nat), i < 1 → rowOb (List.map kindOfV tab) 0 (tabF tab i) (tabF tab i),
 (moreE (mget S.M (key 5 0 0)) != 5) = false,
 (moreE (mget S.M (key 5 0 0)) != 0) = true,
 (((moreE (mget S.M (key 5 0 0)) == 0) == decide (n < 4)) == false) = false,
 tabF tab = tabF tab,
 decide (Int.ofNat ii < (IntKind.i64.wrap come).tmod 9) = true]) := by kernel_rfl
theorem bm1_3 (come gone n : Int) (ii : Nat) (S : MS) (n0 : Int) (S0 : MS) : roundB EM 2000 lcM1 ((bmUp come gone n0 S0).hp) [] (bmT come gone ii n S) [Hint.b true, Hint.b false, Hint.b false] (bmT come gone (ii + 1) (bmU n) (moreA S)) =
 some (Ex.norm, [come = come,
 gone = gone,
 (if 4 < IntKind.i64.wrap (n + 1) then 4 else IntKind.i64.wrap (n + 1)) = bmU n,
 (0 : Nat) = 0,
 (0 : Nat) = 0,
 IntKind.i64.wrap (Int.ofNat ii + 1) = Int.ofNat (ii + 1),
 (moreA { M := S.M, st := S.st, L := { c := S.L.c, k := S.L.k, a := S.L.a, f := S.L.f, w := S.L.w, i := S.L.i, d := S.L.d } }).st = (moreA S).st,
 (moreA { M := S.M, st := S.st, L := { c := S.L.c, k := S.L.k, a := S.L.a, f := S.L.f, w := S.L.w, i := S.L.i, d := S.L.d } }).L.c = (moreA S).L.c,
 (moreA { M := S.M, st := S.st, L := { c := S.L.c, k := S.L.k, a := S.L.a, f := S.L.f, w := S.L.w, i := S.L.i, d := S.L.d } }).L.k = (moreA S).L.k,
 (moreA { M := S.M, st := S.st, L := { c := S.L.c, k := S.L.k, a := S.L.a, f := S.L.f, w := S.L.w, i := S.L.i, d := S.L.d } }).L.a = (moreA S).L.a,
 (moreA { M := S.M, st := S.st, L := { c := S.L.c, k := S.L.k, a := S.L.a, f := S.L.f, w := S.L.w, i := S.L.i, d := S.L.d } }).L.f = (moreA S).L.f,
 (moreA { M := S.M, st := S.st, L := { c := S.L.c, k := S.L.k, a := S.L.a, f := S.L.f, w := S.L.w, i := S.L.i, d := S.L.d } }).L.w = (moreA S).L.w,
 (moreA { M := S.M, st := S.st, L := { c := S.L.c, k := S.L.k, a := S.L.a, f := S.L.f, w := S.L.w, i := S.L.i, d := S.L.d } }).L.i = (moreA S).L.i,
 (moreA { M := S.M, st := S.st, L := { c := S.L.c, k := S.L.k, a := S.L.a, f := S.L.f, w := S.L.w, i := S.L.i, d := S.L.d } }).L.d = (moreA S).L.d,
 ∀ (k : List Int), (moreA { M := S.M, st := S.st, L := { c := S.L.c, k := S.L.k, a := S.L.a, f := S.L.f, w := S.L.w, i := S.L.i, d := S.L.d } }).M k = (moreA S).M k,
 true = true,
 (1 : Nat) ≤ (1 : Nat),
 tabF tab = tabF tab ∧ plainSh (List.map kindOfV tab) = true ∨ ∀ (i : Nat), i < 1 → rowOb (List.map kindOfV tab) 0 (tabF tab i) (tabF tab i),
 (moreE (mget S.M (key 5 0 0)) != 0) = false,
 (((moreE (mget S.M (key 5 0 0)) == 0) == decide (n < 4)) == false) = false,
 tabF tab = tabF tab,
 decide (Int.ofNat ii < (IntKind.i64.wrap come).tmod 9) = true]) := by kernel_rfl
theorem bm1_4 (come gone n : Int) (ii : Nat) (S : MS) (n0 : Int) (S0 : MS) : roundB EM 2000 lcM1 ((bmUp come gone n0 S0).hp) [] (bmT come gone ii n S) [Hint.b false] (bmX gone n S) =
 some (Ex.exit 0, [gone = gone,
 n = n,
 (0 : Nat) = 0,
 (0 : Nat) = 0,
 S.st = S.st,
 S.L.c = S.L.c,
 S.L.k = S.L.k,
 S.L.a = S.L.a,
 S.L.f = S.L.f,
 S.L.w = S.L.w,
 S.L.i = S.L.i,
 S.L.d = S.L.d,
 ∀ (k : List Int), S.M k = S.M k,
 true = true,
 (1 : Nat) ≤ (1 : Nat),
 tabF tab = tabF tab ∧ plainSh (List.map kindOfV tab) = true ∨ ∀ (i : Nat), i < 1 → rowOb (List.map kindOfV tab) 0 (tabF tab i) (tabF tab i),
 decide (Int.ofNat ii < (IntKind.i64.wrap come).tmod 9) = false]) := by kernel_rfl
noncomputable def bmF (come gone n0 : Int) (S0 : MS) (i : Nat) : St := bmT come gone i (bmN n0 i) (bmS S0 i)
theorem bm1_round (come gone n0 : Int) (S0 : MS) (K : Nat) (hK : (IntKind.i64.wrap come).tmod 9 = (K : Int)) (hK8 : K ≤ 8) (h : BInv n0 S0) (ii : Nat) (hi : ii ≤ K) : RoundOk EM lcM1 (bmUp come gone n0 S0) (.exit 0) (bmX gone (bmN n0 K) (bmS S0 K)) (bmF come gone n0 S0) (fun i => K - i) (fun i => i ≤ K) ii := by
  have q := bmInv h ii
  have hb := q.b
  have hlo := q.lo
  have hhi := q.hi
  have he : (bmN n0 ii < 4 ∧ moreE (mget (bmS S0 ii).M (key 5 0 0)) = 0) ∨ (4 ≤ bmN n0 ii ∧ moreE (mget (bmS S0 ii).M (key 5 0 0)) = 5) := by
    by_cases h4 : bmN n0 ii < 4
    · exact .inl ⟨h4, if_neg (by omega)⟩
    · exact .inr ⟨by omega, if_pos (by omega)⟩
  have hw : IntKind.i64.wrap (bmN n0 ii + 1) = bmN n0 ii + 1 := i64w (by omega) (by omega)
  cases h1 : (decide (Int.ofNat ii < (IntKind.i64.wrap come).tmod 9)) with
  | true =>
    have g1 := of_decide_eq_true h1
    try simp only [Int.ofNat_eq_natCast, ge_iff_le, gt_iff_lt, Int.not_lt, Int.not_le] at g1
    cases h2 : (moreE (mget (bmS S0 ii).M (key 5 0 0)) != 0) with
    | true =>
      refine round_norm (s0 := bmUp come gone n0 S0) (T := bmF come gone n0 S0) (i := ii) (ii + 1) (bm1_2 come gone (bmN n0 ii) ii (bmS S0 ii) n0 S0) (ob_cons rfl (ob_cons rfl (ob_cons ?_ (ob_cons rfl (ob_cons rfl (ob_cons ?_ (ob_cons ?_ (ob_cons ?_ (ob_cons ?_ (ob_cons ?_ (ob_cons ?_ (ob_cons ?_ (ob_cons ?_ (ob_cons ?_ (ob_cons ?_ (ob_cons rfl (ob_cons (Nat.le_refl _) (ob_cons (.inl ⟨rfl, rfl⟩) (ob_cons ?_ (ob_cons h2 (ob_cons ?_ (ob_cons rfl (ob_cons h1 ob_nil))))))))))))))))))))))) (by show ii + 1 ≤ K; omega) (by show K - (ii + 1) < K - ii; omega)
      ·
        first | rfl | omega | (rw [hw]; rfl) | (rcases he with ⟨q1, q2⟩ | ⟨q1, q2⟩ <;> simp_all; done) | (rcases he with ⟨q1, q2⟩ | ⟨q1, q2⟩ <;> simp_all <;> omega)
      ·
        first | exact wrap_nat64 _ (by simp; omega) (by simp; omega) | omega | (rw [hw]; rfl) | (rcases he with ⟨q1, q2⟩ | ⟨q1, q2⟩ <;> simp_all; done) | (rcases he with ⟨q1, q2⟩ | ⟨q1, q2⟩ <;> simp_all <;> omega)
      ·
        first | rfl | omega | (rw [hw]; rfl) | (rcases he with ⟨q1, q2⟩ | ⟨q1, q2⟩ <;> simp_all; done) | (rcases he with ⟨q1, q2⟩ | ⟨q1, q2⟩ <;> simp_all <;> omega)
      ·
        first | rfl | omega | (rw [hw]; rfl) | (rcases he with ⟨q1, q2⟩ | ⟨q1, q2⟩ <;> simp_all; done) | (rcases he with ⟨q1, q2⟩ | ⟨q1, q2⟩ <;> simp_all <;> omega)
      ·
        first | rfl | omega | (rw [hw]; rfl) | (rcases he with ⟨q1, q2⟩ | ⟨q1, q2⟩ <;> simp_all; done) | (rcases he with ⟨q1, q2⟩ | ⟨q1, q2⟩ <;> simp_all <;> omega)
      ·
        first | rfl | omega | (rw [hw]; rfl) | (rcases he with ⟨q1, q2⟩ | ⟨q1, q2⟩ <;> simp_all; done) | (rcases he with ⟨q1, q2⟩ | ⟨q1, q2⟩ <;> simp_all <;> omega)
      ·
        first | rfl | omega | (rw [hw]; rfl) | (rcases he with ⟨q1, q2⟩ | ⟨q1, q2⟩ <;> simp_all; done) | (rcases he with ⟨q1, q2⟩ | ⟨q1, q2⟩ <;> simp_all <;> omega)
      ·
        first | rfl | omega | (rw [hw]; rfl) | (rcases he with ⟨q1, q2⟩ | ⟨q1, q2⟩ <;> simp_all; done) | (rcases he with ⟨q1, q2⟩ | ⟨q1, q2⟩ <;> simp_all <;> omega)
      ·
        first | rfl | omega | (rw [hw]; rfl) | (rcases he with ⟨q1, q2⟩ | ⟨q1, q2⟩ <;> simp_all; done) | (rcases he with ⟨q1, q2⟩ | ⟨q1, q2⟩ <;> simp_all <;> omega)
      ·
        first | rfl | omega | (rw [hw]; rfl) | (rcases he with ⟨q1, q2⟩ | ⟨q1, q2⟩ <;> simp_all; done) | (rcases he with ⟨q1, q2⟩ | ⟨q1, q2⟩ <;> simp_all <;> omega)
      ·
        first | exact fun _ => rfl | omega | (rw [hw]; rfl) | (rcases he with ⟨q1, q2⟩ | ⟨q1, q2⟩ <;> simp_all; done) | (rcases he with ⟨q1, q2⟩ | ⟨q1, q2⟩ <;> simp_all <;> omega)
      ·
        first | (apply Nat.ble_eq_true_of_le; omega) | (simp [Nat.blt_eq]; omega) | omega | (rw [hw]; rfl) | (rcases he with ⟨q1, q2⟩ | ⟨q1, q2⟩ <;> simp_all; done) | (rcases he with ⟨q1, q2⟩ | ⟨q1, q2⟩ <;> simp_all <;> omega)
      ·
        first | (apply Nat.ble_eq_true_of_le; omega) | (simp [Nat.blt_eq]; omega) | omega | (rw [hw]; rfl) | (rcases he with ⟨q1, q2⟩ | ⟨q1, q2⟩ <;> simp_all; done) | (rcases he with ⟨q1, q2⟩ | ⟨q1, q2⟩ <;> simp_all <;> omega)
    | false =>
      refine round_norm (s0 := bmUp come gone n0 S0) (T := bmF come gone n0 S0) (i := ii) (ii + 1) (bm1_3 come gone (bmN n0 ii) ii (bmS S0 ii) n0 S0) (ob_cons rfl (ob_cons rfl (ob_cons ?_ (ob_cons rfl (ob_cons rfl (ob_cons ?_ (ob_cons ?_ (ob_cons ?_ (ob_cons ?_ (ob_cons ?_ (ob_cons ?_ (ob_cons ?_ (ob_cons ?_ (ob_cons ?_ (ob_cons ?_ (ob_cons rfl (ob_cons (Nat.le_refl _) (ob_cons (.inl ⟨rfl, rfl⟩) (ob_cons h2 (ob_cons ?_ (ob_cons rfl (ob_cons h1 ob_nil)))))))))))))))))))))) (by show ii + 1 ≤ K; omega) (by show K - (ii + 1) < K - ii; omega)
      ·
        first | rfl | omega | (rw [hw]; rfl) | (rcases he with ⟨q1, q2⟩ | ⟨q1, q2⟩ <;> simp_all; done) | (rcases he with ⟨q1, q2⟩ | ⟨q1, q2⟩ <;> simp_all <;> omega)
      ·
        first | exact wrap_nat64 _ (by simp; omega) (by simp; omega) | omega | (rw [hw]; rfl) | (rcases he with ⟨q1, q2⟩ | ⟨q1, q2⟩ <;> simp_all; done) | (rcases he with ⟨q1, q2⟩ | ⟨q1, q2⟩ <;> simp_all <;> omega)
      ·
        first | rfl | omega | (rw [hw]; rfl) | (rcases he with ⟨q1, q2⟩ | ⟨q1, q2⟩ <;> simp_all; done) | (rcases he with ⟨q1, q2⟩ | ⟨q1, q2⟩ <;> simp_all <;> omega)
      ·
        first | rfl | omega | (rw [hw]; rfl) | (rcases he with ⟨q1, q2⟩ | ⟨q1, q2⟩ <;> simp_all; done) | (rcases he with ⟨q1, q2⟩ | ⟨q1, q2⟩ <;> simp_all <;> omega)
      ·
        first | rfl | omega | (rw [hw]; rfl) | (rcases he with ⟨q1, q2⟩ | ⟨q1, q2⟩ <;> simp_all; done) | (rcases he with ⟨q1, q2⟩ | ⟨q1, q2⟩ <;> simp_all <;> omega)
      ·
        first | rfl | omega | (rw [hw]; rfl) | (rcases he with ⟨q1, q2⟩ | ⟨q1, q2⟩ <;> simp_all; done) | (rcases he with ⟨q1, q2⟩ | ⟨q1, q2⟩ <;> simp_all <;> omega)
      ·
        first | rfl | omega | (rw [hw]; rfl) | (rcases he with ⟨q1, q2⟩ | ⟨q1, q2⟩ <;> simp_all; done) | (rcases he with ⟨q1, q2⟩ | ⟨q1, q2⟩ <;> simp_all <;> omega)
      ·
        first | rfl | omega | (rw [hw]; rfl) | (rcases he with ⟨q1, q2⟩ | ⟨q1, q2⟩ <;> simp_all; done) | (rcases he with ⟨q1, q2⟩ | ⟨q1, q2⟩ <;> simp_all <;> omega)
      ·
        first | rfl | omega | (rw [hw]; rfl) | (rcases he with ⟨q1, q2⟩ | ⟨q1, q2⟩ <;> simp_all; done) | (rcases he with ⟨q1, q2⟩ | ⟨q1, q2⟩ <;> simp_all <;> omega)
      ·
        first | rfl | omega | (rw [hw]; rfl) | (rcases he with ⟨q1, q2⟩ | ⟨q1, q2⟩ <;> simp_all; done) | (rcases he with ⟨q1, q2⟩ | ⟨q1, q2⟩ <;> simp_all <;> omega)
      ·
        first | exact fun _ => rfl | omega | (rw [hw]; rfl) | (rcases he with ⟨q1, q2⟩ | ⟨q1, q2⟩ <;> simp_all; done) | (rcases he with ⟨q1, q2⟩ | ⟨q1, q2⟩ <;> simp_all <;> omega)
      ·
        first | (apply Nat.ble_eq_true_of_le; omega) | (simp [Nat.blt_eq]; omega) | omega | (rw [hw]; rfl) | (rcases he with ⟨q1, q2⟩ | ⟨q1, q2⟩ <;> simp_all; done) | (rcases he with ⟨q1, q2⟩ | ⟨q1, q2⟩ <;> simp_all <;> omega)
  | false =>
    have g1 := of_decide_eq_false h1
    try simp only [Int.ofNat_eq_natCast, ge_iff_le, gt_iff_lt, Int.not_lt, Int.not_le] at g1
    obtain rfl : ii = K := by omega
    refine round_exit (s0 := bmUp come gone n0 S0) (T := bmF come gone n0 S0) (i := ii) (bm1_4 come gone (bmN n0 ii) ii (bmS S0 ii) n0 S0) (by simp) (ob_cons rfl (ob_cons rfl (ob_cons rfl (ob_cons rfl (ob_cons rfl (ob_cons rfl (ob_cons rfl (ob_cons rfl (ob_cons rfl (ob_cons rfl (ob_cons rfl (ob_cons rfl (ob_cons (fun _ => rfl) (ob_cons rfl (ob_cons (Nat.le_refl _) (ob_cons (.inl ⟨rfl, rfl⟩) (ob_cons h1 ob_nil)))))))))))))))))
theorem bm2_2 (gone n : Int) (ii : Nat) (S : MS) (n0 : Int) (S0 : MS) : roundB EM 2000 lcM2 ((blUp gone n0 S0).hp) [] (blT gone ii n S) [Hint.b true, Hint.b false, Hint.b true, Hint.b false] (blT gone (ii + 1) (bmD n) (lessA S)) =
 some (Ex.norm, [gone = gone,
 (if 1 > IntKind.i64.wrap (n - 1) then 1 else IntKind.i64.wrap (n - 1)) = bmD n,
 (0 : Nat) = 0,
 (0 : Nat) = 0,
 IntKind.i64.wrap (Int.ofNat ii + 1) = Int.ofNat (ii + 1),
 (lessA { M := S.M, st := S.st, L := { c := S.L.c, k := S.L.k, a := S.L.a, f := S.L.f, w := S.L.w, i := S.L.i, d := S.L.d } }).st = (lessA S).st,
 (lessA { M := S.M, st := S.st, L := { c := S.L.c, k := S.L.k, a := S.L.a, f := S.L.f, w := S.L.w, i := S.L.i, d := S.L.d } }).L.c = (lessA S).L.c,
 (lessA { M := S.M, st := S.st, L := { c := S.L.c, k := S.L.k, a := S.L.a, f := S.L.f, w := S.L.w, i := S.L.i, d := S.L.d } }).L.k = (lessA S).L.k,
 (lessA { M := S.M, st := S.st, L := { c := S.L.c, k := S.L.k, a := S.L.a, f := S.L.f, w := S.L.w, i := S.L.i, d := S.L.d } }).L.a = (lessA S).L.a,
 (lessA { M := S.M, st := S.st, L := { c := S.L.c, k := S.L.k, a := S.L.a, f := S.L.f, w := S.L.w, i := S.L.i, d := S.L.d } }).L.f = (lessA S).L.f,
 (lessA { M := S.M, st := S.st, L := { c := S.L.c, k := S.L.k, a := S.L.a, f := S.L.f, w := S.L.w, i := S.L.i, d := S.L.d } }).L.w = (lessA S).L.w,
 (lessA { M := S.M, st := S.st, L := { c := S.L.c, k := S.L.k, a := S.L.a, f := S.L.f, w := S.L.w, i := S.L.i, d := S.L.d } }).L.i = (lessA S).L.i,
 (lessA { M := S.M, st := S.st, L := { c := S.L.c, k := S.L.k, a := S.L.a, f := S.L.f, w := S.L.w, i := S.L.i, d := S.L.d } }).L.d = (lessA S).L.d,
 ∀ (k : List Int), (lessA { M := S.M, st := S.st, L := { c := S.L.c, k := S.L.k, a := S.L.a, f := S.L.f, w := S.L.w, i := S.L.i, d := S.L.d } }).M k = (lessA S).M k,
 true = true,
 (1 : Nat) ≤ (1 : Nat),
 tabF tab = tabF tab ∧ plainSh (List.map kindOfV tab) = true ∨ ∀ (i : Nat), i < 1 → rowOb (List.map kindOfV tab) 0 (tabF tab i) (tabF tab i),
 (lessE (mget S.M (key 5 0 0)) != 4) = false,
 (lessE (mget S.M (key 5 0 0)) != 0) = true,
 (((lessE (mget S.M (key 5 0 0)) == 0) == decide (n > 1)) == false) = false,
 tabF tab = tabF tab,
 mget S.M (key 5 0 0) ≤ 4,
 1 < mget S.M (key 5 0 0) → mget S.M (key 7 (mget S.M (key 5 0 0) - 1) 0) = 0,
 decide (Int.ofNat ii < (IntKind.i64.wrap gone).tmod 9) = true]) := by kernel_rfl
theorem bm2_3 (gone n : Int) (ii : Nat) (S : MS) (n0 : Int) (S0 : MS) : roundB EM 2000 lcM2 ((blUp gone n0 S0).hp) [] (blT gone ii n S) [Hint.b true, Hint.b false, Hint.b false] (blT gone (ii + 1) (bmD n) (lessA S)) =
 some (Ex.norm, [gone = gone,
 (if 1 > IntKind.i64.wrap (n - 1) then 1 else IntKind.i64.wrap (n - 1)) = bmD n,
 (0 : Nat) = 0,
 (0 : Nat) = 0,
 IntKind.i64.wrap (Int.ofNat ii + 1) = Int.ofNat (ii + 1),
 (lessA { M := S.M, st := S.st, L := { c := S.L.c, k := S.L.k, a := S.L.a, f := S.L.f, w := S.L.w, i := S.L.i, d := S.L.d } }).st = (lessA S).st,
 (lessA { M := S.M, st := S.st, L := { c := S.L.c, k := S.L.k, a := S.L.a, f := S.L.f, w := S.L.w, i := S.L.i, d := S.L.d } }).L.c = (lessA S).L.c,
 (lessA { M := S.M, st := S.st, L := { c := S.L.c, k := S.L.k, a := S.L.a, f := S.L.f, w := S.L.w, i := S.L.i, d := S.L.d } }).L.k = (lessA S).L.k,
 (lessA { M := S.M, st := S.st, L := { c := S.L.c, k := S.L.k, a := S.L.a, f := S.L.f, w := S.L.w, i := S.L.i, d := S.L.d } }).L.a = (lessA S).L.a,
 (lessA { M := S.M, st := S.st, L := { c := S.L.c, k := S.L.k, a := S.L.a, f := S.L.f, w := S.L.w, i := S.L.i, d := S.L.d } }).L.f = (lessA S).L.f,
 (lessA { M := S.M, st := S.st, L := { c := S.L.c, k := S.L.k, a := S.L.a, f := S.L.f, w := S.L.w, i := S.L.i, d := S.L.d } }).L.w = (lessA S).L.w,
 (lessA { M := S.M, st := S.st, L := { c := S.L.c, k := S.L.k, a := S.L.a, f := S.L.f, w := S.L.w, i := S.L.i, d := S.L.d } }).L.i = (lessA S).L.i,
 (lessA { M := S.M, st := S.st, L := { c := S.L.c, k := S.L.k, a := S.L.a, f := S.L.f, w := S.L.w, i := S.L.i, d := S.L.d } }).L.d = (lessA S).L.d,
 ∀ (k : List Int), (lessA { M := S.M, st := S.st, L := { c := S.L.c, k := S.L.k, a := S.L.a, f := S.L.f, w := S.L.w, i := S.L.i, d := S.L.d } }).M k = (lessA S).M k,
 true = true,
 (1 : Nat) ≤ (1 : Nat),
 tabF tab = tabF tab ∧ plainSh (List.map kindOfV tab) = true ∨ ∀ (i : Nat), i < 1 → rowOb (List.map kindOfV tab) 0 (tabF tab i) (tabF tab i),
 (lessE (mget S.M (key 5 0 0)) != 0) = false,
 (((lessE (mget S.M (key 5 0 0)) == 0) == decide (n > 1)) == false) = false,
 tabF tab = tabF tab,
 mget S.M (key 5 0 0) ≤ 4,
 1 < mget S.M (key 5 0 0) → mget S.M (key 7 (mget S.M (key 5 0 0) - 1) 0) = 0,
 decide (Int.ofNat ii < (IntKind.i64.wrap gone).tmod 9) = true]) := by kernel_rfl
theorem bm2_4 (gone n : Int) (ii : Nat) (S : MS) (n0 : Int) (S0 : MS) : roundB EM 2000 lcM2 ((blUp gone n0 S0).hp) [] (blT gone ii n S) [Hint.b false] (blX n S) =
 some (Ex.exit 2, [n = n,
 (0 : Nat) = 0,
 (0 : Nat) = 0,
 S.st = S.st,
 S.L.c = S.L.c,
 S.L.k = S.L.k,
 S.L.a = S.L.a,
 S.L.f = S.L.f,
 S.L.w = S.L.w,
 S.L.i = S.L.i,
 S.L.d = S.L.d,
 ∀ (k : List Int), S.M k = S.M k,
 true = true,
 (1 : Nat) ≤ (1 : Nat),
 tabF tab = tabF tab ∧ plainSh (List.map kindOfV tab) = true ∨ ∀ (i : Nat), i < 1 → rowOb (List.map kindOfV tab) 0 (tabF tab i) (tabF tab i),
 decide (Int.ofNat ii < (IntKind.i64.wrap gone).tmod 9) = false]) := by kernel_rfl
theorem bmi1_1 (come gone n0 : Int) (S0 : MS) : castSt ((bmUp come gone n0 S0).hp) [] (bmUp come gone n0 S0) (bmT come gone 0 n0 S0) =
 some ([come = come,
 gone = gone,
 n0 = n0,
 (0 : Nat) = 0,
 (0 : Nat) = 0,
 (0 : Int) = 0,
 S0.st = S0.st,
 S0.L.c = S0.L.c,
 S0.L.k = S0.L.k,
 S0.L.a = S0.L.a,
 S0.L.f = S0.L.f,
 S0.L.w = S0.L.w,
 S0.L.i = S0.L.i,
 S0.L.d = S0.L.d,
 ∀ (k : List Int), S0.M k = S0.M k,
 true = true,
 (1 : Nat) ≤ (1 : Nat),
 tabF tab = tabF tab ∧ plainSh (List.map kindOfV tab) = true ∨ ∀ (i : Nat), i < 1 → rowOb (List.map kindOfV tab) 0 (tabF tab i) (tabF tab i)]) := by kernel_rfl
theorem bmi2_1 (gone n0 : Int) (S0 : MS) : castSt ((blUp gone n0 S0).hp) [] (blUp gone n0 S0) (blT gone 0 n0 S0) =
 some ([gone = gone,
 n0 = n0,
 (0 : Nat) = 0,
 (0 : Nat) = 0,
 (0 : Int) = 0,
 S0.st = S0.st,
 S0.L.c = S0.L.c,
 S0.L.k = S0.L.k,
 S0.L.a = S0.L.a,
 S0.L.f = S0.L.f,
 S0.L.w = S0.L.w,
 S0.L.i = S0.L.i,
 S0.L.d = S0.L.d,
 ∀ (k : List Int), S0.M k = S0.M k,
 true = true,
 (1 : Nat) ≤ (1 : Nat),
 tabF tab = tabF tab ∧ plainSh (List.map kindOfV tab) = true ∨ ∀ (i : Nat), i < 1 → rowOb (List.map kindOfV tab) 0 (tabF tab i) (tabF tab i)]) := by kernel_rfl
noncomputable def blF (gone n0 : Int) (S0 : MS) (i : Nat) : St := blT gone i (blN n0 i) (blS S0 i)
theorem bm2_round (gone n0 : Int) (S0 : MS) (K : Nat) (hK : (IntKind.i64.wrap gone).tmod 9 = (K : Int)) (hK8 : K ≤ 8) (h : BInv n0 S0) (ii : Nat) (hi : ii ≤ K) : RoundOk EM lcM2 (blUp gone n0 S0) (.exit 2) (blX (blN n0 K) (blS S0 K)) (blF gone n0 S0) (fun i => K - i) (fun i => i ≤ K) ii := by
  have q := blInv h ii
  have hb := q.b
  have hlo := q.lo
  have hhi := q.hi
  have hz : 1 < mget (blS S0 ii).M (key 5 0 0) → mget (blS S0 ii).M (key 7 (mget (blS S0 ii).M (key 5 0 0) - 1) 0) = 0 := fun h1 => q.z _ (by omega) (by omega)
  have he : (blN n0 ii > 1 ∧ lessE (mget (blS S0 ii).M (key 5 0 0)) = 0) ∨ (blN n0 ii ≤ 1 ∧ lessE (mget (blS S0 ii).M (key 5 0 0)) = 4) := by
    by_cases h4 : blN n0 ii > 1
    · exact .inl ⟨h4, if_neg (by omega)⟩
    · exact .inr ⟨by omega, if_pos (by omega)⟩
  have hw : IntKind.i64.wrap (blN n0 ii - 1) = blN n0 ii - 1 := i64w (by omega) (by omega)
  cases h1 : (decide (Int.ofNat ii < (IntKind.i64.wrap gone).tmod 9)) with
  | true =>
    have g1 := of_decide_eq_true h1
    try simp only [Int.ofNat_eq_natCast, ge_iff_le, gt_iff_lt, Int.not_lt, Int.not_le] at g1
    cases h2 : (lessE (mget (blS S0 ii).M (key 5 0 0)) != 0) with
    | true =>
      refine round_norm (s0 := blUp gone n0 S0) (T := blF gone n0 S0) (i := ii) (ii + 1) (bm2_2 gone (blN n0 ii) ii (blS S0 ii) n0 S0) (ob_cons rfl (ob_cons ?_ (ob_cons rfl (ob_cons rfl (ob_cons ?_ (ob_cons ?_ (ob_cons ?_ (ob_cons ?_ (ob_cons ?_ (ob_cons ?_ (ob_cons ?_ (ob_cons ?_ (ob_cons ?_ (ob_cons ?_ (ob_cons rfl (ob_cons (Nat.le_refl _) (ob_cons (.inl ⟨rfl, rfl⟩) (ob_cons ?_ (ob_cons h2 (ob_cons ?_ (ob_cons rfl (ob_cons ?_ (ob_cons ?_ (ob_cons h1 ob_nil)))))))))))))))))))))))) (by show ii + 1 ≤ K; omega) (by show K - (ii + 1) < K - ii; omega)
      ·
        first | rfl | omega | exact hz | (rw [hw]; rfl) | (rcases he with ⟨q1, q2⟩ | ⟨q1, q2⟩ <;> simp_all; done) | (rcases he with ⟨q1, q2⟩ | ⟨q1, q2⟩ <;> simp_all <;> omega)
      ·
        first | exact wrap_nat64 _ (by simp; omega) (by simp; omega) | omega | exact hz | (rw [hw]; rfl) | (rcases he with ⟨q1, q2⟩ | ⟨q1, q2⟩ <;> simp_all; done) | (rcases he with ⟨q1, q2⟩ | ⟨q1, q2⟩ <;> simp_all <;> omega)
      ·
        first | rfl | omega | exact hz | (rw [hw]; rfl) | (rcases he with ⟨q1, q2⟩ | ⟨q1, q2⟩ <;> simp_all; done) | (rcases he with ⟨q1, q2⟩ | ⟨q1, q2⟩ <;> simp_all <;> omega)
      ·
        first | rfl | omega | exact hz | (rw [hw]; rfl) | (rcases he with ⟨q1, q2⟩ | ⟨q1, q2⟩ <;> simp_all; done) | (rcases he with ⟨q1, q2⟩ | ⟨q1, q2⟩ <;> simp_all <;> omega)
      ·
        first | rfl | omega | exact hz | (rw [hw]; rfl) | (rcases he with ⟨q1, q2⟩ | ⟨q1, q2⟩ <;> simp_all; done) | (rcases he with ⟨q1, q2⟩ | ⟨q1, q2⟩ <;> simp_all <;> omega)
      ·
        first | rfl | omega | exact hz | (rw [hw]; rfl) | (rcases he with ⟨q1, q2⟩ | ⟨q1, q2⟩ <;> simp_all; done) | (rcases he with ⟨q1, q2⟩ | ⟨q1, q2⟩ <;> simp_all <;> omega)
      ·
        first | rfl | omega | exact hz | (rw [hw]; rfl) | (rcases he with ⟨q1, q2⟩ | ⟨q1, q2⟩ <;> simp_all; done) | (rcases he with ⟨q1, q2⟩ | ⟨q1, q2⟩ <;> simp_all <;> omega)
      ·
        first | rfl | omega | exact hz | (rw [hw]; rfl) | (rcases he with ⟨q1, q2⟩ | ⟨q1, q2⟩ <;> simp_all; done) | (rcases he with ⟨q1, q2⟩ | ⟨q1, q2⟩ <;> simp_all <;> omega)
      ·
        first | rfl | omega | exact hz | (rw [hw]; rfl) | (rcases he with ⟨q1, q2⟩ | ⟨q1, q2⟩ <;> simp_all; done) | (rcases he with ⟨q1, q2⟩ | ⟨q1, q2⟩ <;> simp_all <;> omega)
      ·
        first | rfl | omega | exact hz | (rw [hw]; rfl) | (rcases he with ⟨q1, q2⟩ | ⟨q1, q2⟩ <;> simp_all; done) | (rcases he with ⟨q1, q2⟩ | ⟨q1, q2⟩ <;> simp_all <;> omega)
      ·
        first | exact fun _ => rfl | omega | exact hz | (rw [hw]; rfl) | (rcases he with ⟨q1, q2⟩ | ⟨q1, q2⟩ <;> simp_all; done) | (rcases he with ⟨q1, q2⟩ | ⟨q1, q2⟩ <;> simp_all <;> omega)
      ·
        first | (apply Nat.ble_eq_true_of_le; omega) | (simp [Nat.blt_eq]; omega) | omega | exact hz | (rw [hw]; rfl) | (rcases he with ⟨q1, q2⟩ | ⟨q1, q2⟩ <;> simp_all; done) | (rcases he with ⟨q1, q2⟩ | ⟨q1, q2⟩ <;> simp_all <;> omega)
      ·
        first | (apply Nat.ble_eq_true_of_le; omega) | (simp [Nat.blt_eq]; omega) | omega | exact hz | (rw [hw]; rfl) | (rcases he with ⟨q1, q2⟩ | ⟨q1, q2⟩ <;> simp_all; done) | (rcases he with ⟨q1, q2⟩ | ⟨q1, q2⟩ <;> simp_all <;> omega)
      ·
        first | exact Nat.le_refl _ | omega | omega | exact hz | (rw [hw]; rfl) | (rcases he with ⟨q1, q2⟩ | ⟨q1, q2⟩ <;> simp_all; done) | (rcases he with ⟨q1, q2⟩ | ⟨q1, q2⟩ <;> simp_all <;> omega)
      ·
        first | exact fun _ => rfl | omega | exact hz | (rw [hw]; rfl) | (rcases he with ⟨q1, q2⟩ | ⟨q1, q2⟩ <;> simp_all; done) | (rcases he with ⟨q1, q2⟩ | ⟨q1, q2⟩ <;> simp_all <;> omega)
    | false =>
      refine round_norm (s0 := blUp gone n0 S0) (T := blF gone n0 S0) (i := ii) (ii + 1) (bm2_3 gone (blN n0 ii) ii (blS S0 ii) n0 S0) (ob_cons rfl (ob_cons ?_ (ob_cons rfl (ob_cons rfl (ob_cons ?_ (ob_cons ?_ (ob_cons ?_ (ob_cons ?_ (ob_cons ?_ (ob_cons ?_ (ob_cons ?_ (ob_cons ?_ (ob_cons ?_ (ob_cons ?_ (ob_cons rfl (ob_cons (Nat.le_refl _) (ob_cons (.inl ⟨rfl, rfl⟩) (ob_cons h2 (ob_cons ?_ (ob_cons rfl (ob_cons ?_ (ob_cons ?_ (ob_cons h1 ob_nil))))))))))))))))))))))) (by show ii + 1 ≤ K; omega) (by show K - (ii + 1) < K - ii; omega)
      ·
        first | rfl | omega | exact hz | (rw [hw]; rfl) | (rcases he with ⟨q1, q2⟩ | ⟨q1, q2⟩ <;> simp_all; done) | (rcases he with ⟨q1, q2⟩ | ⟨q1, q2⟩ <;> simp_all <;> omega)
      ·
        first | exact wrap_nat64 _ (by simp; omega) (by simp; omega) | omega | exact hz | (rw [hw]; rfl) | (rcases he with ⟨q1, q2⟩ | ⟨q1, q2⟩ <;> simp_all; done) | (rcases he with ⟨q1, q2⟩ | ⟨q1, q2⟩ <;> simp_all <;> omega)
      ·
        first | rfl | omega | exact hz | (rw [hw]; rfl) | (rcases he with ⟨q1, q2⟩ | ⟨q1, q2⟩ <;> simp_all; done) | (rcases he with ⟨q1, q2⟩ | ⟨q1, q2⟩ <;> simp_all <;> omega)
      ·
        first | rfl | omega | exact hz | (rw [hw]; rfl) | (rcases he with ⟨q1, q2⟩ | ⟨q1, q2⟩ <;> simp_all; done) | (rcases he with ⟨q1, q2⟩ | ⟨q1, q2⟩ <;> simp_all <;> omega)
      ·
        first | rfl | omega | exact hz | (rw [hw]; rfl) | (rcases he with ⟨q1, q2⟩ | ⟨q1, q2⟩ <;> simp_all; done) | (rcases he with ⟨q1, q2⟩ | ⟨q1, q2⟩ <;> simp_all <;> omega)
      ·
        first | rfl | omega | exact hz | (rw [hw]; rfl) | (rcases he with ⟨q1, q2⟩ | ⟨q1, q2⟩ <;> simp_all; done) | (rcases he with ⟨q1, q2⟩ | ⟨q1, q2⟩ <;> simp_all <;> omega)
      ·
        first | rfl | omega | exact hz | (rw [hw]; rfl) | (rcases he with ⟨q1, q2⟩ | ⟨q1, q2⟩ <;> simp_all; done) | (rcases he with ⟨q1, q2⟩ | ⟨q1, q2⟩ <;> simp_all <;> omega)
      ·
        first | rfl | omega | exact hz | (rw [hw]; rfl) | (rcases he with ⟨q1, q2⟩ | ⟨q1, q2⟩ <;> simp_all; done) | (rcases he with ⟨q1, q2⟩ | ⟨q1, q2⟩ <;> simp_all <;> omega)
      ·
        first | rfl | omega | exact hz | (rw [hw]; rfl) | (rcases he with ⟨q1, q2⟩ | ⟨q1, q2⟩ <;> simp_all; done) | (rcases he with ⟨q1, q2⟩ | ⟨q1, q2⟩ <;> simp_all <;> omega)
      ·
        first | rfl | omega | exact hz | (rw [hw]; rfl) | (rcases he with ⟨q1, q2⟩ | ⟨q1, q2⟩ <;> simp_all; done) | (rcases he with ⟨q1, q2⟩ | ⟨q1, q2⟩ <;> simp_all <;> omega)
      ·
        first | exact fun _ => rfl | omega | exact hz | (rw [hw]; rfl) | (rcases he with ⟨q1, q2⟩ | ⟨q1, q2⟩ <;> simp_all; done) | (rcases he with ⟨q1, q2⟩ | ⟨q1, q2⟩ <;> simp_all <;> omega)
      ·
        first | (apply Nat.ble_eq_true_of_le; omega) | (simp [Nat.blt_eq]; omega) | omega | exact hz | (rw [hw]; rfl) | (rcases he with ⟨q1, q2⟩ | ⟨q1, q2⟩ <;> simp_all; done) | (rcases he with ⟨q1, q2⟩ | ⟨q1, q2⟩ <;> simp_all <;> omega)
      ·
        first | exact Nat.le_refl _ | omega | omega | exact hz | (rw [hw]; rfl) | (rcases he with ⟨q1, q2⟩ | ⟨q1, q2⟩ <;> simp_all; done) | (rcases he with ⟨q1, q2⟩ | ⟨q1, q2⟩ <;> simp_all <;> omega)
      ·
        first | exact fun _ => rfl | omega | exact hz | (rw [hw]; rfl) | (rcases he with ⟨q1, q2⟩ | ⟨q1, q2⟩ <;> simp_all; done) | (rcases he with ⟨q1, q2⟩ | ⟨q1, q2⟩ <;> simp_all <;> omega)
  | false =>
    have g1 := of_decide_eq_false h1
    try simp only [Int.ofNat_eq_natCast, ge_iff_le, gt_iff_lt, Int.not_lt, Int.not_le] at g1
    obtain rfl : ii = K := by omega
    refine round_exit (s0 := blUp gone n0 S0) (T := blF gone n0 S0) (i := ii) (bm2_4 gone (blN n0 ii) ii (blS S0 ii) n0 S0) (by simp) (ob_cons rfl (ob_cons rfl (ob_cons rfl (ob_cons rfl (ob_cons rfl (ob_cons rfl (ob_cons rfl (ob_cons rfl (ob_cons rfl (ob_cons rfl (ob_cons rfl (ob_cons (fun _ => rfl) (ob_cons rfl (ob_cons (Nat.le_refl _) (ob_cons (.inl ⟨rfl, rfl⟩) (ob_cons h1 ob_nil))))))))))))))))
theorem bm1_lp (come gone n0 : Int) (S0 : MS) (K : Nat) (hK : (IntKind.i64.wrap come).tmod 9 = (K : Int)) (hK8 : K ≤ 8) (h : BInv n0 S0) : bmL1 come gone n0 S0 (bmN n0 K) (bmS S0 K) := by
  refine loop_rule EM_ok (I := Nat) (bmF come gone n0 S0) (fun i => K - i) (fun i => i ≤ K) ?_ (fun ii hi => bm1_round come gone n0 S0 K hK hK8 h ii hi)
  refine ⟨0, [], _, Nat.zero_le _, bmi1_1 come gone n0 S0, (ob_cons rfl (ob_cons rfl (ob_cons rfl (ob_cons rfl (ob_cons rfl (ob_cons rfl (ob_cons rfl (ob_cons rfl (ob_cons rfl (ob_cons rfl (ob_cons rfl (ob_cons rfl (ob_cons rfl (ob_cons rfl (ob_cons (fun _ => rfl) (ob_cons rfl (ob_cons (Nat.le_refl _) (ob_cons (.inl ⟨rfl, rfl⟩) ob_nil))))))))))))))))))⟩
theorem bm2_lp (gone n0 : Int) (S0 : MS) (K : Nat) (hK : (IntKind.i64.wrap gone).tmod 9 = (K : Int)) (hK8 : K ≤ 8) (h : BInv n0 S0) : bmL2 gone n0 S0 (blN n0 K) (blS S0 K) := by
  refine loop_rule EM_ok (I := Nat) (blF gone n0 S0) (fun i => K - i) (fun i => i ≤ K) ?_ (fun ii hi => bm2_round gone n0 S0 K hK hK8 h ii hi)
  refine ⟨0, [], _, Nat.zero_le _, bmi2_1 gone n0 S0, (ob_cons rfl (ob_cons rfl (ob_cons rfl (ob_cons rfl (ob_cons rfl (ob_cons rfl (ob_cons rfl (ob_cons rfl (ob_cons rfl (ob_cons rfl (ob_cons rfl (ob_cons rfl (ob_cons rfl (ob_cons (fun _ => rfl) (ob_cons rfl (ob_cons (Nat.le_refl _) (ob_cons (.inl ⟨rfl, rfl⟩) ob_nil)))))))))))))))))⟩
end Go.Proofs.YtofopjkjmhepeaaDoor
