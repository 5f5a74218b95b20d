/-
  Chapter 14: the loop of Lay.
-/
import Derived.Test.YtmlfmmnnbdlabaaDoorQLxDef
set_option linter.unusedSimpArgs false
set_option linter.unusedVariables false
namespace Go.Proofs.YtmlfmmnnbdlabaaDoor
open Go.Ev
theorem lya_1 (n : Nat) (g : Nat → Nat → AV) (ii : Nat) (x0 x y : MS) : roundB ELy 4000 lyL ((lyU n g x0).hp) [] (lyT n g ii x) [Hint.b true, Hint.b true] (lyT n g (ii + 1) y) =
 some (Ex.norm, [(0 : Nat) = 0,
 (0 : Nat) = 0,
 (0 : Nat) = 0,
 n = n,
 (none : Option Nat) = none,
 IntKind.i64.wrap (Int.ofNat ii + 1) = Int.ofNat (ii + 1),
 IntKind.i64.wrap (IntKind.i64.wrap (IntKind.i64.wrap (IntKind.i64.wrap (IntKind.i64.wrap (IntKind.i64.wrap (IntKind.i64.wrap (IntKind.i64.wrap (IntKind.i64.wrap (IntKind.i64.wrap (x.st + 1) + 1) + 1) + 1) + 1) + 1) + 1) + 1) + 1) + 1) = y.st,
 2 = y.L.c,
 8 = y.L.k,
 Int.ofNat ii = y.L.a,
 9 = y.L.f,
 mget (memPut (memPut (memPut (memPut (memPut (memPut (memPut (memPut (memPut x.M 8 (Int.ofNat ii) 0 (wd10 (avInt (g (0 + ii) 0)) (avInt (g (0 + ii) 1)) (avInt (g (0 + ii) 2)) (avInt (g (0 + ii) 3)) (avInt (g (0 + ii) 4)) (avInt (g (0 + ii) 5)) (avInt (g (0 + ii) 6)) (avInt (g (0 + ii) 7)) (avInt (g (0 + ii) 8)) (avInt (g (0 + ii) 9)) 0)) 8 (Int.ofNat ii) 1 (wd10 (avInt (g (0 + ii) 0)) (avInt (g (0 + ii) 1)) (avInt (g (0 + ii) 2)) (avInt (g (0 + ii) 3)) (avInt (g (0 + ii) 4)) (avInt (g (0 + ii) 5)) (avInt (g (0 + ii) 6)) (avInt (g (0 + ii) 7)) (avInt (g (0 + ii) 8)) (avInt (g (0 + ii) 9)) 1)) 8 (Int.ofNat ii) 2 (wd10 (avInt (g (0 + ii) 0)) (avInt (g (0 + ii) 1)) (avInt (g (0 + ii) 2)) (avInt (g (0 + ii) 3)) (avInt (g (0 + ii) 4)) (avInt (g (0 + ii) 5)) (avInt (g (0 + ii) 6)) (avInt (g (0 + ii) 7)) (avInt (g (0 + ii) 8)) (avInt (g (0 + ii) 9)) 2)) 8 (Int.ofNat ii) 3 (wd10 (avInt (g (0 + ii) 0)) (avInt (g (0 + ii) 1)) (avInt (g (0 + ii) 2)) (avInt (g (0 + ii) 3)) (avInt (g (0 + ii) 4)) (avInt (g (0 + ii) 5)) (avInt (g (0 + ii) 6)) (avInt (g (0 + ii) 7)) (avInt (g (0 + ii) 8)) (avInt (g (0 + ii) 9)) 3)) 8 (Int.ofNat ii) 4 (wd10 (avInt (g (0 + ii) 0)) (avInt (g (0 + ii) 1)) (avInt (g (0 + ii) 2)) (avInt (g (0 + ii) 3)) (avInt (g (0 + ii) 4)) (avInt (g (0 + ii) 5)) (avInt (g (0 + ii) 6)) (avInt (g (0 + ii) 7)) (avInt (g (0 + ii) 8)) (avInt (g (0 + ii) 9)) 4)) 8 (Int.ofNat ii) 5 (wd10 (avInt (g (0 + ii) 0)) (avInt (g (0 + ii) 1)) (avInt (g (0 + ii) 2)) (avInt (g (0 + ii) 3)) (avInt (g (0 + ii) 4)) (avInt (g (0 + ii) 5)) (avInt (g (0 + ii) 6)) (avInt (g (0 + ii) 7)) (avInt (g (0 + ii) 8)) (avInt (g (0 + ii) 9)) 5)) 8 (Int.ofNat ii) 6 (wd10 (avInt (g (0 + ii) 0)) (avInt (g (0 + ii) 1)) (avInt (g (0 + ii) 2)) (avInt (g (0 + ii) 3)) (avInt (g (0 + ii) 4)) (avInt (g (0 + ii) 5)) (avInt (g (0 + ii) 6)) (avInt (g (0 + ii) 7)) (avInt (g (0 + ii) 8)) (avInt (g (0 + ii) 9)) 6)) 8 (Int.ofNat ii) 7 (wd10 (avInt (g (0 + ii) 0)) (avInt (g (0 + ii) 1)) (avInt (g (0 + ii) 2)) (avInt (g (0 + ii) 3)) (avInt (g (0 + ii) 4)) (avInt (g (0 + ii) 5)) (avInt (g (0 + ii) 6)) (avInt (g (0 + ii) 7)) (avInt (g (0 + ii) 8)) (avInt (g (0 + ii) 9)) 7)) 8 (Int.ofNat ii) 8 (wd10 (avInt (g (0 + ii) 0)) (avInt (g (0 + ii) 1)) (avInt (g (0 + ii) 2)) (avInt (g (0 + ii) 3)) (avInt (g (0 + ii) 4)) (avInt (g (0 + ii) 5)) (avInt (g (0 + ii) 6)) (avInt (g (0 + ii) 7)) (avInt (g (0 + ii) 8)) (avInt (g (0 + ii) 9)) 8)) (key 8 (Int.ofNat ii) 9) = y.L.w,
 memIs (memPut (memPut (memPut (memPut (memPut (memPut (memPut (memPut (memPut x.M 8 (Int.ofNat ii) 0 (wd10 (avInt (g (0 + ii) 0)) (avInt (g (0 + ii) 1)) (avInt (g (0 + ii) 2)) (avInt (g (0 + ii) 3)) (avInt (g (0 + ii) 4)) (avInt (g (0 + ii) 5)) (avInt (g (0 + ii) 6)) (avInt (g (0 + ii) 7)) (avInt (g (0 + ii) 8)) (avInt (g (0 + ii) 9)) 0)) 8 (Int.ofNat ii) 1 (wd10 (avInt (g (0 + ii) 0)) (avInt (g (0 + ii) 1)) (avInt (g (0 + ii) 2)) (avInt (g (0 + ii) 3)) (avInt (g (0 + ii) 4)) (avInt (g (0 + ii) 5)) (avInt (g (0 + ii) 6)) (avInt (g (0 + ii) 7)) (avInt (g (0 + ii) 8)) (avInt (g (0 + ii) 9)) 1)) 8 (Int.ofNat ii) 2 (wd10 (avInt (g (0 + ii) 0)) (avInt (g (0 + ii) 1)) (avInt (g (0 + ii) 2)) (avInt (g (0 + ii) 3)) (avInt (g (0 + ii) 4)) (avInt (g (0 + ii) 5)) (avInt (g (0 + ii) 6)) (avInt (g (0 + ii) 7)) (avInt (g (0 + ii) 8)) (avInt (g (0 + ii) 9)) 2)) 8 (Int.ofNat ii) 3 (wd10 (avInt (g (0 + ii) 0)) (avInt (g (0 + ii) 1)) (avInt (g (0 + ii) 2)) (avInt (g (0 + ii) 3)) (avInt (g (0 + ii) 4)) (avInt (g (0 + ii) 5)) (avInt (g (0 + ii) 6)) (avInt (g (0 + ii) 7)) (avInt (g (0 + ii) 8)) (avInt (g (0 + ii) 9)) 3)) 8 (Int.ofNat ii) 4 (wd10 (avInt (g (0 + ii) 0)) (avInt (g (0 + ii) 1)) (avInt (g (0 + ii) 2)) (avInt (g (0 + ii) 3)) (avInt (g (0 + ii) 4)) (avInt (g (0 + ii) 5)) (avInt (g (0 + ii) 6)) (avInt (g (0 + ii) 7)) (avInt (g (0 + ii) 8)) (avInt (g (0 + ii) 9)) 4)) 8 (Int.ofNat ii) 5 (wd10 (avInt (g (0 + ii) 0)) (avInt (g (0 + ii) 1)) (avInt (g (0 + ii) 2)) (avInt (g (0 + ii) 3)) (avInt (g (0 + ii) 4)) (avInt (g (0 + ii) 5)) (avInt (g (0 + ii) 6)) (avInt (g (0 + ii) 7)) (avInt (g (0 + ii) 8)) (avInt (g (0 + ii) 9)) 5)) 8 (Int.ofNat ii) 6 (wd10 (avInt (g (0 + ii) 0)) (avInt (g (0 + ii) 1)) (avInt (g (0 + ii) 2)) (avInt (g (0 + ii) 3)) (avInt (g (0 + ii) 4)) (avInt (g (0 + ii) 5)) (avInt (g (0 + ii) 6)) (avInt (g (0 + ii) 7)) (avInt (g (0 + ii) 8)) (avInt (g (0 + ii) 9)) 6)) 8 (Int.ofNat ii) 7 (wd10 (avInt (g (0 + ii) 0)) (avInt (g (0 + ii) 1)) (avInt (g (0 + ii) 2)) (avInt (g (0 + ii) 3)) (avInt (g (0 + ii) 4)) (avInt (g (0 + ii) 5)) (avInt (g (0 + ii) 6)) (avInt (g (0 + ii) 7)) (avInt (g (0 + ii) 8)) (avInt (g (0 + ii) 9)) 7)) 8 (Int.ofNat ii) 8 (wd10 (avInt (g (0 + ii) 0)) (avInt (g (0 + ii) 1)) (avInt (g (0 + ii) 2)) (avInt (g (0 + ii) 3)) (avInt (g (0 + ii) 4)) (avInt (g (0 + ii) 5)) (avInt (g (0 + ii) 6)) (avInt (g (0 + ii) 7)) (avInt (g (0 + ii) 8)) (avInt (g (0 + ii) 9)) 8)) 8 (Int.ofNat ii) 9 (wd10 (avInt (g (0 + ii) 0)) (avInt (g (0 + ii) 1)) (avInt (g (0 + ii) 2)) (avInt (g (0 + ii) 3)) (avInt (g (0 + ii) 4)) (avInt (g (0 + ii) 5)) (avInt (g (0 + ii) 6)) (avInt (g (0 + ii) 7)) (avInt (g (0 + ii) 8)) (avInt (g (0 + ii) 9)) 9) = y.L.i,
 false = y.L.d,
 ∀ (k : List Int), memPut (memPut (memPut (memPut (memPut (memPut (memPut (memPut (memPut (memPut x.M 8 (Int.ofNat ii) 0 (wd10 (avInt (g (0 + ii) 0)) (avInt (g (0 + ii) 1)) (avInt (g (0 + ii) 2)) (avInt (g (0 + ii) 3)) (avInt (g (0 + ii) 4)) (avInt (g (0 + ii) 5)) (avInt (g (0 + ii) 6)) (avInt (g (0 + ii) 7)) (avInt (g (0 + ii) 8)) (avInt (g (0 + ii) 9)) 0)) 8 (Int.ofNat ii) 1 (wd10 (avInt (g (0 + ii) 0)) (avInt (g (0 + ii) 1)) (avInt (g (0 + ii) 2)) (avInt (g (0 + ii) 3)) (avInt (g (0 + ii) 4)) (avInt (g (0 + ii) 5)) (avInt (g (0 + ii) 6)) (avInt (g (0 + ii) 7)) (avInt (g (0 + ii) 8)) (avInt (g (0 + ii) 9)) 1)) 8 (Int.ofNat ii) 2 (wd10 (avInt (g (0 + ii) 0)) (avInt (g (0 + ii) 1)) (avInt (g (0 + ii) 2)) (avInt (g (0 + ii) 3)) (avInt (g (0 + ii) 4)) (avInt (g (0 + ii) 5)) (avInt (g (0 + ii) 6)) (avInt (g (0 + ii) 7)) (avInt (g (0 + ii) 8)) (avInt (g (0 + ii) 9)) 2)) 8 (Int.ofNat ii) 3 (wd10 (avInt (g (0 + ii) 0)) (avInt (g (0 + ii) 1)) (avInt (g (0 + ii) 2)) (avInt (g (0 + ii) 3)) (avInt (g (0 + ii) 4)) (avInt (g (0 + ii) 5)) (avInt (g (0 + ii) 6)) (avInt (g (0 + ii) 7)) (avInt (g (0 + ii) 8)) (avInt (g (0 + ii) 9)) 3)) 8 (Int.ofNat ii) 4 (wd10 (avInt (g (0 + ii) 0)) (avInt (g (0 + ii) 1)) (avInt (g (0 + ii) 2)) (avInt (g (0 + ii) 3)) (avInt (g (0 + ii) 4)) (avInt (g (0 + ii) 5)) (avInt (g (0 + ii) 6)) (avInt (g (0 + ii) 7)) (avInt (g (0 + ii) 8)) (avInt (g (0 + ii) 9)) 4)) 8 (Int.ofNat ii) 5 (wd10 (avInt (g (0 + ii) 0)) (avInt (g (0 + ii) 1)) (avInt (g (0 + ii) 2)) (avInt (g (0 + ii) 3)) (avInt (g (0 + ii) 4)) (avInt (g (0 + ii) 5)) (avInt (g (0 + ii) 6)) (avInt (g (0 + ii) 7)) (avInt (g (0 + ii) 8)) (avInt (g (0 + ii) 9)) 5)) 8 (Int.ofNat ii) 6 (wd10 (avInt (g (0 + ii) 0)) (avInt (g (0 + ii) 1)) (avInt (g (0 + ii) 2)) (avInt (g (0 + ii) 3)) (avInt (g (0 + ii) 4)) (avInt (g (0 + ii) 5)) (avInt (g (0 + ii) 6)) (avInt (g (0 + ii) 7)) (avInt (g (0 + ii) 8)) (avInt (g (0 + ii) 9)) 6)) 8 (Int.ofNat ii) 7 (wd10 (avInt (g (0 + ii) 0)) (avInt (g (0 + ii) 1)) (avInt (g (0 + ii) 2)) (avInt (g (0 + ii) 3)) (avInt (g (0 + ii) 4)) (avInt (g (0 + ii) 5)) (avInt (g (0 + ii) 6)) (avInt (g (0 + ii) 7)) (avInt (g (0 + ii) 8)) (avInt (g (0 + ii) 9)) 7)) 8 (Int.ofNat ii) 8 (wd10 (avInt (g (0 + ii) 0)) (avInt (g (0 + ii) 1)) (avInt (g (0 + ii) 2)) (avInt (g (0 + ii) 3)) (avInt (g (0 + ii) 4)) (avInt (g (0 + ii) 5)) (avInt (g (0 + ii) 6)) (avInt (g (0 + ii) 7)) (avInt (g (0 + ii) 8)) (avInt (g (0 + ii) 9)) 8)) 8 (Int.ofNat ii) 9 (wd10 (avInt (g (0 + ii) 0)) (avInt (g (0 + ii) 1)) (avInt (g (0 + ii) 2)) (avInt (g (0 + ii) 3)) (avInt (g (0 + ii) 4)) (avInt (g (0 + ii) 5)) (avInt (g (0 + ii) 6)) (avInt (g (0 + ii) 7)) (avInt (g (0 + ii) 8)) (avInt (g (0 + ii) 9)) 9) k = y.M k,
 true = true,
 n ≤ n,
 g = g ∧ plainSh tSh = true ∨ ∀ (i : Nat), i < n → rowOb tSh 0 (g i) (g i),
 (0 : Int) ≤ (8 : Int),
 (0 : Int) ≤ (9 : Int),
 (9 : Int) < (10 : Int),
 (0 + ii).blt n = true,
 (ii.blt n && decide (0 ≤ Int.ofNat ii)) = true,
 (0 : Int) ≤ (8 : Int),
 (0 : Int) ≤ (8 : Int),
 (8 : Int) < (10 : Int),
 (0 + ii).blt n = true,
 (ii.blt n && decide (0 ≤ Int.ofNat ii)) = true,
 (0 : Int) ≤ (8 : Int),
 (0 : Int) ≤ (7 : Int),
 (7 : Int) < (10 : Int),
 (0 + ii).blt n = true,
 (ii.blt n && decide (0 ≤ Int.ofNat ii)) = true,
 (0 : Int) ≤ (8 : Int),
 (0 : Int) ≤ (6 : Int),
 (6 : Int) < (10 : Int),
 (0 + ii).blt n = true,
 (ii.blt n && decide (0 ≤ Int.ofNat ii)) = true,
 (0 : Int) ≤ (8 : Int),
 (0 : Int) ≤ (5 : Int),
 (5 : Int) < (10 : Int),
 (0 + ii).blt n = true,
 (ii.blt n && decide (0 ≤ Int.ofNat ii)) = true,
 (0 : Int) ≤ (8 : Int),
 (0 : Int) ≤ (4 : Int),
 (4 : Int) < (10 : Int),
 (0 + ii).blt n = true,
 (ii.blt n && decide (0 ≤ Int.ofNat ii)) = true,
 (0 : Int) ≤ (8 : Int),
 (0 : Int) ≤ (3 : Int),
 (3 : Int) < (10 : Int),
 (0 + ii).blt n = true,
 (ii.blt n && decide (0 ≤ Int.ofNat ii)) = true,
 (0 : Int) ≤ (8 : Int),
 (0 : Int) ≤ (2 : Int),
 (2 : Int) < (10 : Int),
 (0 + ii).blt n = true,
 (ii.blt n && decide (0 ≤ Int.ofNat ii)) = true,
 (0 : Int) ≤ (8 : Int),
 (0 : Int) ≤ (1 : Int),
 (1 : Int) < (10 : Int),
 (0 + ii).blt n = true,
 (ii.blt n && decide (0 ≤ Int.ofNat ii)) = true,
 (0 : Int) ≤ (8 : Int),
 (0 : Int) ≤ (0 : Int),
 (0 : Int) < (10 : Int),
 (0 + ii).blt n = true,
 (ii.blt n && decide (0 ≤ Int.ofNat ii)) = true,
 decide (Int.ofNat ii < 16) = true,
 decide (Int.ofNat ii < Int.ofNat n) = true]) := by kernel_rfl
theorem lyx_1 (n : Nat) (g : Nat → Nat → AV) (ii : Nat) (x0 x y : MS) : roundB ELy 4000 lyL ((lyU n g x0).hp) [] (lyT n g ii x) [Hint.b false] (lyX n g x) =
 some (Ex.exit 0, [x.st = x.st,
 x.L.c = x.L.c,
 x.L.k = x.L.k,
 x.L.a = x.L.a,
 x.L.f = x.L.f,
 x.L.w = x.L.w,
 x.L.i = x.L.i,
 x.L.d = x.L.d,
 ∀ (k : List Int), x.M k = x.M k,
 true = true,
 n ≤ n,
 g = g ∧ plainSh tSh = true ∨ ∀ (i : Nat), i < n → rowOb tSh 0 (g i) (g i),
 decide (Int.ofNat ii < Int.ofNat n) = false]) := by kernel_rfl
theorem lyi_1 (n : Nat) (g : Nat → Nat → AV) (x : MS) : castSt ((lyU n g x).hp) [] (lyU n g x) (lyT n g 0 x) =
 some ([(0 : Nat) = 0,
 (0 : Nat) = 0,
 (0 : Nat) = 0,
 n = n,
 (none : Option Nat) = none,
 (0 : Int) = 0,
 x.st = x.st,
 x.L.c = x.L.c,
 x.L.k = x.L.k,
 x.L.a = x.L.a,
 x.L.f = x.L.f,
 x.L.w = x.L.w,
 x.L.i = x.L.i,
 x.L.d = x.L.d,
 ∀ (k : List Int), x.M k = x.M k,
 true = true,
 n ≤ n,
 g = g ∧ plainSh tSh = true ∨ ∀ (i : Nat), i < n → rowOb tSh 0 (g i) (g i)]) := by kernel_rfl
theorem ly_lp (n : Nat) (g : Nat → Nat → AV) (x : MS) (hn : n ≤ 16) : lyLP n g x (layN g x n) := by
  refine loop_rule ELy_ok (I := Nat) (fun i => lyT n g i (layN g x i)) (fun i => n - i) (fun i => i ≤ n) ?_ (fun ii hi => ?_)
  ·
    refine ⟨0, [], _, Nat.zero_le _, lyi_1 .., (ob_cons rfl (ob_cons rfl (ob_cons rfl (ob_cons rfl (ob_cons rfl (ob_cons rfl (ob_cons rfl (ob_cons rfl (ob_cons rfl (ob_cons rfl (ob_cons rfl (ob_cons rfl (ob_cons rfl (ob_cons rfl (ob_cons (fun _ => rfl) (ob_cons rfl (ob_cons (Nat.le_refl _) (ob_cons (.inl ⟨rfl, rfl⟩) ob_nil))))))))))))))))))⟩
  have hi : ii ≤ n := hi
  by_cases hin : ii < n
  · have hin1 : decide (Int.ofNat ii < Int.ofNat n) = true := decide_eq_true (by simp; omega)
    have hin4 : decide (Int.ofNat ii < (16 : Int)) = true := decide_eq_true (by simp; omega)
    have hin2 : (ii.blt n && decide (0 ≤ Int.ofNat ii)) = true := by rw [Bool.and_eq_true]; exact ⟨by simpa [Nat.blt_eq] using hin, decide_eq_true (by simp)⟩
    have hin3 : (0 + ii).blt n = true := by rw [Nat.zero_add]; simpa [Nat.blt_eq] using hin
    have hwi : IntKind.i64.wrap (Int.ofNat ii + 1) = Int.ofNat (ii + 1) := wrap_nat64 _ (by simp; omega) (by simp; omega)
    have hy : layN g x (ii + 1) = layK g ii (layN g x ii) 10 := rfl
    refine round_norm (s0 := lyU n g x) (T := fun i => lyT n g i (layN g x i)) (i := ii) (ii + 1) (lya_1 n g ii x (layN g x ii) (layN g x (ii + 1))) (ob_cons rfl (ob_cons rfl (ob_cons rfl (ob_cons rfl (ob_cons rfl (ob_cons ?_ (ob_cons ?_ (ob_cons ?_ (ob_cons ?_ (ob_cons ?_ (ob_cons ?_ (ob_cons ?_ (ob_cons ?_ (ob_cons ?_ (ob_cons ?_ (ob_cons rfl (ob_cons (Nat.le_refl _) (ob_cons (.inl ⟨rfl, rfl⟩) (ob_cons (by decide) (ob_cons (by decide) (ob_cons (by decide) (ob_cons ?_ (ob_cons ?_ (ob_cons (by decide) (ob_cons (by decide) (ob_cons (by decide) (ob_cons ?_ (ob_cons ?_ (ob_cons (by decide) (ob_cons (by decide) (ob_cons (by decide) (ob_cons ?_ (ob_cons ?_ (ob_cons (by decide) (ob_cons (by decide) (ob_cons (by decide) (ob_cons ?_ (ob_cons ?_ (ob_cons (by decide) (ob_cons (by decide) (ob_cons (by decide) (ob_cons ?_ (ob_cons ?_ (ob_cons (by decide) (ob_cons (by decide) (ob_cons (by decide) (ob_cons ?_ (ob_cons ?_ (ob_cons (by decide) (ob_cons (by decide) (ob_cons (by decide) (ob_cons ?_ (ob_cons ?_ (ob_cons (by decide) (ob_cons (by decide) (ob_cons (by decide) (ob_cons ?_ (ob_cons ?_ (ob_cons (by decide) (ob_cons (by decide) (ob_cons (by decide) (ob_cons ?_ (ob_cons ?_ (ob_cons (by decide) (ob_cons (Int.le_refl _) (ob_cons (by decide) (ob_cons ?_ (ob_cons ?_ (ob_cons ?_ (ob_cons ?_ ob_nil)))))))))))))))))))))))))))))))))))))))))))))))))))))))))))))))))))))) (by show ii + 1 ≤ n; omega) (by show n - (ii + 1) < n - ii; omega)
    · exact hwi
    · (rw [hy]; rfl)
    · (rw [hy]; rfl)
    · (rw [hy]; rfl)
    · (rw [hy]; rfl)
    · (rw [hy]; rfl)
    · (rw [hy]; rfl)
    · (rw [hy]; rfl)
    · (rw [hy]; rfl)
    · (rw [hy]; exact fun _ => rfl)
    · exact hin3
    · exact hin2
    · exact hin3
    · exact hin2
    · exact hin3
    · exact hin2
    · exact hin3
    · exact hin2
    · exact hin3
    · exact hin2
    · exact hin3
    · exact hin2
    · exact hin3
    · exact hin2
    · exact hin3
    · exact hin2
    · exact hin3
    · exact hin2
    · exact hin3
    · exact hin2
    · exact hin4
    · exact hin1
  · obtain rfl : n = ii := by omega
    have hin1 : decide (Int.ofNat n < Int.ofNat n) = false := decide_eq_false (by simp)
    refine round_exit (s0 := lyU n g x) (T := fun i => lyT n g i (layN g x i)) (i := n) (lyx_1 n g n x (layN g x n) (layN g x n)) (by simp) (ob_cons rfl (ob_cons rfl (ob_cons rfl (ob_cons rfl (ob_cons rfl (ob_cons rfl (ob_cons rfl (ob_cons rfl (ob_cons (fun _ => rfl) (ob_cons rfl (ob_cons (Nat.le_refl _) (ob_cons (.inl ⟨rfl, rfl⟩) (ob_cons ?_ ob_nil)))))))))))))
    · exact hin1

end Go.Proofs.YtmlfmmnnbdlabaaDoor
