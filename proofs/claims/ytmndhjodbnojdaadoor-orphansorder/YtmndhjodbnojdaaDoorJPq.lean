/-
  given: its loop.
-/
import Derived.Test.YtmndhjodbnojdaaDoorJPp
set_option linter.unusedSimpArgs false
set_option linter.unusedVariables false
namespace Go.Proofs.YtmndhjodbnojdaaDoor
open Go.Ev
theorem gnlr_1 (n l : Nat) (r : Bool) (f : Nat → Nat → AV) (t : Int) (S : MS) (ii : Nat) : roundB EGv 2000 gnlL ((gnlU n l r f t S).hp) [] (gnlT n l r f t S ii) [Hint.b true, Hint.b false] (gnlT n l r f t S (ii + 1)) =
 some (Ex.norm, [(0 : Nat) = 0,
 (0 : Nat) = 0,
 t = t,
 (0 : Nat) = 0,
 (0 : Nat) = 0,
 IntKind.i64.wrap (Int.ofNat ii + 1 + 1) = Int.ofNat (ii + 1) + 1,
 true = true,
 (1 : Nat) ≤ (1 : Nat),
 tabF tab = tabF tab ∧ plainSh (List.map kindOfV tab) = true ∨ ∀ (i : Nat), i < 1 → rowOb (List.map kindOfV tab) 0 (tabF tab i) (tabF tab i),
 (gvY n (kOf (nF (yK f))) (gvIt n (yK f) S ii).S (gvIt n (yK f) S ii).o).st = (gvIt n (yK f) S (ii + 1)).S.st,
 (gvY n (kOf (nF (yK f))) (gvIt n (yK f) S ii).S (gvIt n (yK f) S ii).o).L.c = (gvIt n (yK f) S (ii + 1)).S.L.c,
 (gvY n (kOf (nF (yK f))) (gvIt n (yK f) S ii).S (gvIt n (yK f) S ii).o).L.k = (gvIt n (yK f) S (ii + 1)).S.L.k,
 (gvY n (kOf (nF (yK f))) (gvIt n (yK f) S ii).S (gvIt n (yK f) S ii).o).L.a = (gvIt n (yK f) S (ii + 1)).S.L.a,
 (gvY n (kOf (nF (yK f))) (gvIt n (yK f) S ii).S (gvIt n (yK f) S ii).o).L.f = (gvIt n (yK f) S (ii + 1)).S.L.f,
 (gvY n (kOf (nF (yK f))) (gvIt n (yK f) S ii).S (gvIt n (yK f) S ii).o).L.w = (gvIt n (yK f) S (ii + 1)).S.L.w,
 (gvY n (kOf (nF (yK f))) (gvIt n (yK f) S ii).S (gvIt n (yK f) S ii).o).L.i = (gvIt n (yK f) S (ii + 1)).S.L.i,
 (gvY n (kOf (nF (yK f))) (gvIt n (yK f) S ii).S (gvIt n (yK f) S ii).o).L.d = (gvIt n (yK f) S (ii + 1)).S.L.d,
 ∀ (k : List Int), (gvY n (kOf (nF (yK f))) (gvIt n (yK f) S ii).S (gvIt n (yK f) S ii).o).M k = (gvIt n (yK f) S (ii + 1)).S.M k,
 r = r,
 l ≤ l,
 f = f ∧ plainSh [CK.int IntKind.i64, CK.int IntKind.u32, CK.bool, CK.int IntKind.u64, CK.int IntKind.u64, CK.int IntKind.u64] = true ∨ ∀ (i : Nat), i < l → rowOb [CK.int IntKind.i64, CK.int IntKind.u32, CK.bool, CK.int IntKind.u64, CK.int IntKind.u64, CK.int IntKind.u64] 0 (f i) (f i),
 (gvX n (kOf (nF (yK f))) (gvIt n (yK f) S ii).S (gvIt n (yK f) S ii).o).ln = (gvIt n (yK f) S (ii + 1)).o.ln,
 (gvX n (kOf (nF (yK f))) (gvIt n (yK f) S ii).S (gvIt n (yK f) S ii).o).h = (gvIt n (yK f) S (ii + 1)).o.h,
 (0 : Nat) = 0,
 n = n,
 (none : Option Nat) = none,
 (gvX n (kOf (nF (yK f))) (gvIt n (yK f) S ii).S (gvIt n (yK f) S ii).o).at_ = (gvIt n (yK f) S (ii + 1)).o.at_,
 false = false,
 n ≤ n,
 nF (yK f) = nF (yK f) ∧ plainSh [CK.int IntKind.i64] = true ∨ ∀ (i : Nat), i < n → rowOb [CK.int IntKind.i64] 0 (nF (yK f) i) (nF (yK f) i),
 decide ((gvX n (kOf (nF (yK f))) (gvIt n (yK f) S ii).S (gvIt n (yK f) S ii).o).ln = 0) = false,
 tabF tab = tabF tab,
 U64 (gvIt n (yK f) S ii).S,
 GLn n (gvIt n (yK f) S ii).o.ln (gvIt n (yK f) S ii).o.at_,
 n ≤ n,
 R64 (gvIt n (yK f) S ii).o.h,
 n ≤ 1000000,
 decide (Int.ofNat ii + 1 < t) = true]) := by kernel_rfl
theorem gnlr_2 (n l : Nat) (r : Bool) (f : Nat → Nat → AV) (t : Int) (S : MS) (ii : Nat) : roundB EGv 2000 gnlL ((gnlU n l r f t S).hp) [] (gnlT n l r f t S ii) [Hint.b false] (gnlX n l r f t S ii) =
 some (Ex.exit 0, [(0 : Nat) = 0,
 (0 : Nat) = 0,
 (0 : Nat) = 0,
 (0 : Nat) = 0,
 true = true,
 (1 : Nat) ≤ (1 : Nat),
 tabF tab = tabF tab ∧ plainSh (List.map kindOfV tab) = true ∨ ∀ (i : Nat), i < 1 → rowOb (List.map kindOfV tab) 0 (tabF tab i) (tabF tab i),
 (gvIt n (yK f) S ii).S.st = (gvIt n (yK f) S ii).S.st,
 (gvIt n (yK f) S ii).S.L.c = (gvIt n (yK f) S ii).S.L.c,
 (gvIt n (yK f) S ii).S.L.k = (gvIt n (yK f) S ii).S.L.k,
 (gvIt n (yK f) S ii).S.L.a = (gvIt n (yK f) S ii).S.L.a,
 (gvIt n (yK f) S ii).S.L.f = (gvIt n (yK f) S ii).S.L.f,
 (gvIt n (yK f) S ii).S.L.w = (gvIt n (yK f) S ii).S.L.w,
 (gvIt n (yK f) S ii).S.L.i = (gvIt n (yK f) S ii).S.L.i,
 (gvIt n (yK f) S ii).S.L.d = (gvIt n (yK f) S ii).S.L.d,
 ∀ (k : List Int), (gvIt n (yK f) S ii).S.M k = (gvIt n (yK f) S ii).S.M k,
 r = r,
 l ≤ l,
 f = f ∧ plainSh [CK.int IntKind.i64, CK.int IntKind.u32, CK.bool, CK.int IntKind.u64, CK.int IntKind.u64, CK.int IntKind.u64] = true ∨ ∀ (i : Nat), i < l → rowOb [CK.int IntKind.i64, CK.int IntKind.u32, CK.bool, CK.int IntKind.u64, CK.int IntKind.u64, CK.int IntKind.u64] 0 (f i) (f i),
 (gvIt n (yK f) S ii).o.ln = (gvIt n (yK f) S ii).o.ln,
 (gvIt n (yK f) S ii).o.h = (gvIt n (yK f) S ii).o.h,
 (0 : Nat) = 0,
 n = n,
 (none : Option Nat) = none,
 (gvIt n (yK f) S ii).o.at_ = (gvIt n (yK f) S ii).o.at_,
 false = false,
 n ≤ n,
 nF (yK f) = nF (yK f) ∧ plainSh [CK.int IntKind.i64] = true ∨ ∀ (i : Nat), i < n → rowOb [CK.int IntKind.i64] 0 (nF (yK f) i) (nF (yK f) i),
 decide (Int.ofNat ii + 1 < t) = false]) := by kernel_rfl
theorem gnli_1 (n l : Nat) (r : Bool) (f : Nat → Nat → AV) (t : Int) (S : MS) : castSt ((gnlU n l r f t S).hp) [] (gnlU n l r f t S) (gnlT n l r f t S 0) =
 some ([(0 : Nat) = 0,
 (0 : Nat) = 0,
 t = t,
 (0 : Nat) = 0,
 (0 : Nat) = 0,
 (1 : Int) = 1,
 true = true,
 (1 : Nat) ≤ (1 : Nat),
 tabF tab = tabF tab ∧ plainSh (List.map kindOfV tab) = true ∨ ∀ (i : Nat), i < 1 → rowOb (List.map kindOfV tab) 0 (tabF tab i) (tabF tab i),
 S.st = (gvIt n (yK f) S 0).S.st,
 S.L.c = (gvIt n (yK f) S 0).S.L.c,
 S.L.k = (gvIt n (yK f) S 0).S.L.k,
 S.L.a = (gvIt n (yK f) S 0).S.L.a,
 S.L.f = (gvIt n (yK f) S 0).S.L.f,
 S.L.w = (gvIt n (yK f) S 0).S.L.w,
 S.L.i = (gvIt n (yK f) S 0).S.L.i,
 S.L.d = (gvIt n (yK f) S 0).S.L.d,
 ∀ (k : List Int), S.M k = (gvIt n (yK f) S 0).S.M k,
 r = r,
 l ≤ l,
 f = f ∧ plainSh [CK.int IntKind.i64, CK.int IntKind.u32, CK.bool, CK.int IntKind.u64, CK.int IntKind.u64, CK.int IntKind.u64] = true ∨ ∀ (i : Nat), i < l → rowOb [CK.int IntKind.i64, CK.int IntKind.u32, CK.bool, CK.int IntKind.u64, CK.int IntKind.u64, CK.int IntKind.u64] 0 (f i) (f i),
 ngL n = (gvIt n (yK f) S 0).o.ln,
 (0 : Int) = 0,
 (0 : Nat) = 0,
 n = n,
 (none : Option Nat) = none,
 (0 : Int) = 0,
 false = false,
 n ≤ n,
 nF (yK f) = nF (yK f) ∧ plainSh [CK.int IntKind.i64] = true ∨ ∀ (i : Nat), i < n → rowOb [CK.int IntKind.i64] 0 (nF (yK f) i) (nF (yK f) i)]) := by kernel_rfl
theorem gnl_lp (n l : Nat) (r : Bool) (f : Nat → Nat → AV) (t : Int) (S : MS) (hu : U64 S) (hv : GvMay n f) (ht : t = Int.ofNat n + 2) (hno : ∀ i, 1 ≤ i → i ≤ n + 1 → ¬ (gvIt n (yK f) S i).o.ln = 0) : gnlLP n l r f t S := by
  refine loop_rule EGv_ok (I := Nat) (fun i => gnlT n l r f t S i) (fun i => (n + 1) - i) (fun i => i ≤ (n + 1)) ?_ (fun ii hi => ?_)
  ·
    refine ⟨0, [], _, Nat.zero_le _, gnli_1 .., (ob_cons rfl (ob_cons rfl (ob_cons rfl (ob_cons rfl (ob_cons rfl (ob_cons rfl (ob_cons rfl (ob_cons (Nat.le_refl _) (ob_cons (.inl ⟨rfl, rfl⟩) (ob_cons ?_ (ob_cons ?_ (ob_cons ?_ (ob_cons ?_ (ob_cons ?_ (ob_cons ?_ (ob_cons ?_ (ob_cons ?_ (ob_cons ?_ (ob_cons rfl (ob_cons (Nat.le_refl _) (ob_cons (.inl ⟨rfl, rfl⟩) (ob_cons ?_ (ob_cons rfl (ob_cons rfl (ob_cons rfl (ob_cons rfl (ob_cons rfl (ob_cons rfl (ob_cons (Nat.le_refl _) (ob_cons (.inl ⟨rfl, rfl⟩) ob_nil))))))))))))))))))))))))))))))⟩
    · exact rfl
    · exact rfl
    · exact rfl
    · exact rfl
    · exact rfl
    · exact rfl
    · exact rfl
    · exact rfl
    · exact fun _ => rfl
    · exact rfl
  have hi : ii ≤ (n + 1) := hi
  have ht2 : t = (n : Int) + 2 := ht
  have hit := gvIt_ok (K := yK f) hu hv.n0 hv.n1 ii
  have hn1 := hv.n1
  have ex1 : IntKind.i64.wrap (Int.ofNat ii + 1 + 1) = Int.ofNat (ii + 1) + 1 := by rw [i64w (by simp; omega) (by simp; omega)]; simp
  have ex2 : ii < n + 1 → decide (Int.ofNat ii + 1 < t) = true := fun h => decide_eq_true (by rw [ht]; simp; omega)
  have ex3 : ¬ ii < n + 1 → decide (Int.ofNat ii + 1 < t) = false := fun h => decide_eq_false (by rw [ht]; simp; omega)
  cases h1 : (decide (Int.ofNat ii + 1 < t)) with
  | true =>
    have g1 := of_decide_eq_true h1
    try simp only [Int.ofNat_eq_natCast, ge_iff_le, gt_iff_lt, Int.not_lt, Int.not_le] at g1
    refine round_norm (s0 := gnlU n l r f t S) (T := fun i => gnlT n l r f t S i) (i := ii) (ii + 1) (gnlr_1 ..) (ob_cons rfl (ob_cons rfl (ob_cons rfl (ob_cons rfl (ob_cons rfl (ob_cons ?_ (ob_cons rfl (ob_cons (Nat.le_refl _) (ob_cons (.inl ⟨rfl, rfl⟩) (ob_cons ?_ (ob_cons ?_ (ob_cons ?_ (ob_cons ?_ (ob_cons ?_ (ob_cons ?_ (ob_cons ?_ (ob_cons ?_ (ob_cons ?_ (ob_cons rfl (ob_cons (Nat.le_refl _) (ob_cons (.inl ⟨rfl, rfl⟩) (ob_cons ?_ (ob_cons ?_ (ob_cons rfl (ob_cons rfl (ob_cons rfl (ob_cons ?_ (ob_cons rfl (ob_cons (Nat.le_refl _) (ob_cons (.inl ⟨rfl, rfl⟩) (ob_cons ?_ (ob_cons rfl (ob_cons ?_ (ob_cons ?_ (ob_cons (Nat.le_refl _) (ob_cons ?_ (ob_cons ?_ (ob_cons h1 ob_nil)))))))))))))))))))))))))))))))))))))) (by show ii + 1 ≤ (n + 1); omega) (by show (n + 1) - (ii + 1) < (n + 1) - ii; omega)
    · with_reducible assumption
    · exact rfl
    · exact rfl
    · exact rfl
    · exact rfl
    · exact rfl
    · exact rfl
    · exact rfl
    · exact rfl
    · exact fun _ => rfl
    · exact rfl
    · exact rfl
    · exact rfl
    · exact decide_eq_false (hno (ii + 1) (by omega) (by omega))
    · exact hit.1
    · exact hit.2.l
    · exact hit.2.h
    · with_reducible assumption
  | false =>
    have g1 := of_decide_eq_false h1
    try simp only [Int.ofNat_eq_natCast, ge_iff_le, gt_iff_lt, Int.not_lt, Int.not_le] at g1
    obtain rfl : (n + 1) = ii := by (by_cases c : ii < n + 1; (rw [ex2 c] at h1; cases h1); omega)
    refine round_exit (s0 := gnlU n l r f t S) (T := fun i => gnlT n l r f t S i) (i := (n + 1)) (gnlr_2 ..) (by simp) (ob_cons rfl (ob_cons rfl (ob_cons rfl (ob_cons rfl (ob_cons rfl (ob_cons (Nat.le_refl _) (ob_cons (.inl ⟨rfl, rfl⟩) (ob_cons rfl (ob_cons rfl (ob_cons rfl (ob_cons rfl (ob_cons rfl (ob_cons rfl (ob_cons rfl (ob_cons rfl (ob_cons (fun _ => rfl) (ob_cons rfl (ob_cons (Nat.le_refl _) (ob_cons (.inl ⟨rfl, rfl⟩) (ob_cons rfl (ob_cons rfl (ob_cons rfl (ob_cons rfl (ob_cons rfl (ob_cons rfl (ob_cons rfl (ob_cons (Nat.le_refl _) (ob_cons (.inl ⟨rfl, rfl⟩) (ob_cons h1 ob_nil)))))))))))))))))))))))))))))
end Go.Proofs.YtmndhjodbnojdaaDoor
