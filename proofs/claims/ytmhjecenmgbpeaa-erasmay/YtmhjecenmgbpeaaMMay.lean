/-
  Eras: May.
-/
import Derived.Test.YtmhjecenmgbpeaaMMayDef
set_option linter.unusedSimpArgs false
set_option linter.unusedVariables false
namespace Go.Proofs.Ytmhjecenmgbpeaa
open Go.Ev
theorem ixff_1 (n l : Nat) (r : Bool) (g : Nat → Nat → AV) (sl ge : Int) (mk : Bool) (b ep er : Int) (ii : Nat) : roundB EM0 2000 ixfL ((ixfU n l r g sl ge mk b ep er).hp) [] (ixfT n l r g sl ge mk b ep er ii) [Hint.b true, Hint.b true, Hint.b true, Hint.b true, Hint.b true] (ixfQ n l r g sl ge mk b ep er ii) =
 some (Ex.ret, [Int.ofNat ii = Int.ofNat ii,
 r = r,
 l ≤ l,
 g = g ∧ plainSh tSh = true ∨ ∀ (i : Nat), i < l → rowOb tSh 0 (g i) (g i),
 sl = sl,
 ge = ge,
 mk = mk,
 b = b,
 ep = ep,
 er = er,
 decide (b ≤ IntKind.u64.wrap (avInt (g (0 + ii) 5) - 1)) = true,
 decide (IntKind.u64.wrap (avInt (g (0 + ii) 4) - 1) ≤ er) = true,
 (avInt (g (0 + ii) 5) != 0) = true,
 (avInt (g (0 + ii) 4) != 0) = true,
 (0 + ii).blt l = true,
 (ii.blt n && decide (0 ≤ Int.ofNat ii)) = true,
 decide (Int.ofNat ii < Int.ofNat n) = true]) := by kernel_rfl
theorem ixff_2 (n l : Nat) (r : Bool) (g : Nat → Nat → AV) (sl ge : Int) (mk : Bool) (b ep er : Int) (ii : Nat) : roundB EM0 2000 ixfL ((ixfU n l r g sl ge mk b ep er).hp) [] (ixfT n l r g sl ge mk b ep er ii) [Hint.b true, Hint.b true, Hint.b true, Hint.b true, Hint.b false] (ixfT n l r g sl ge mk b ep er (ii + 1)) =
 some (Ex.norm, [(0 : Nat) = 0,
 n = n,
 (none : Option Nat) = none,
 (0 : Nat) = 0,
 (0 : Nat) = 0,
 (0 : Nat) = 0,
 n = n,
 (none : Option Nat) = none,
 Int.ofNat n = Int.ofNat n,
 IntKind.i64.wrap (Int.ofNat ii + 1) = Int.ofNat (ii + 1),
 r = r,
 l ≤ l,
 g = g ∧ plainSh tSh = true ∨ ∀ (i : Nat), i < l → rowOb tSh 0 (g i) (g i),
 sl = sl,
 ge = ge,
 mk = mk,
 b = b,
 ep = ep,
 er = er,
 decide (b ≤ IntKind.u64.wrap (avInt (g (0 + ii) 5) - 1)) = false,
 decide (IntKind.u64.wrap (avInt (g (0 + ii) 4) - 1) ≤ er) = true,
 (avInt (g (0 + ii) 5) != 0) = true,
 (avInt (g (0 + ii) 4) != 0) = true,
 (0 + ii).blt l = true,
 (ii.blt n && decide (0 ≤ Int.ofNat ii)) = true,
 decide (Int.ofNat ii < Int.ofNat n) = true]) := by kernel_rfl
theorem ixff_3 (n l : Nat) (r : Bool) (g : Nat → Nat → AV) (sl ge : Int) (mk : Bool) (b ep er : Int) (ii : Nat) : roundB EM0 2000 ixfL ((ixfU n l r g sl ge mk b ep er).hp) [] (ixfT n l r g sl ge mk b ep er ii) [Hint.b true, Hint.b true, Hint.b true, Hint.b false] (ixfT n l r g sl ge mk b ep er (ii + 1)) =
 some (Ex.norm, [(0 : Nat) = 0,
 n = n,
 (none : Option Nat) = none,
 (0 : Nat) = 0,
 (0 : Nat) = 0,
 (0 : Nat) = 0,
 n = n,
 (none : Option Nat) = none,
 Int.ofNat n = Int.ofNat n,
 IntKind.i64.wrap (Int.ofNat ii + 1) = Int.ofNat (ii + 1),
 r = r,
 l ≤ l,
 g = g ∧ plainSh tSh = true ∨ ∀ (i : Nat), i < l → rowOb tSh 0 (g i) (g i),
 sl = sl,
 ge = ge,
 mk = mk,
 b = b,
 ep = ep,
 er = er,
 decide (IntKind.u64.wrap (avInt (g (0 + ii) 4) - 1) ≤ er) = false,
 (avInt (g (0 + ii) 5) != 0) = true,
 (avInt (g (0 + ii) 4) != 0) = true,
 (0 + ii).blt l = true,
 (ii.blt n && decide (0 ≤ Int.ofNat ii)) = true,
 decide (Int.ofNat ii < Int.ofNat n) = true]) := by kernel_rfl
theorem ixff_4 (n l : Nat) (r : Bool) (g : Nat → Nat → AV) (sl ge : Int) (mk : Bool) (b ep er : Int) (ii : Nat) : roundB EM0 2000 ixfL ((ixfU n l r g sl ge mk b ep er).hp) [] (ixfT n l r g sl ge mk b ep er ii) [Hint.b true, Hint.b true, Hint.b false] (ixfT n l r g sl ge mk b ep er (ii + 1)) =
 some (Ex.norm, [(0 : Nat) = 0,
 n = n,
 (none : Option Nat) = none,
 (0 : Nat) = 0,
 (0 : Nat) = 0,
 (0 : Nat) = 0,
 n = n,
 (none : Option Nat) = none,
 Int.ofNat n = Int.ofNat n,
 IntKind.i64.wrap (Int.ofNat ii + 1) = Int.ofNat (ii + 1),
 r = r,
 l ≤ l,
 g = g ∧ plainSh tSh = true ∨ ∀ (i : Nat), i < l → rowOb tSh 0 (g i) (g i),
 sl = sl,
 ge = ge,
 mk = mk,
 b = b,
 ep = ep,
 er = er,
 (avInt (g (0 + ii) 5) != 0) = false,
 (avInt (g (0 + ii) 4) != 0) = true,
 (0 + ii).blt l = true,
 (ii.blt n && decide (0 ≤ Int.ofNat ii)) = true,
 decide (Int.ofNat ii < Int.ofNat n) = true]) := by kernel_rfl
theorem ixff_5 (n l : Nat) (r : Bool) (g : Nat → Nat → AV) (sl ge : Int) (mk : Bool) (b ep er : Int) (ii : Nat) : roundB EM0 2000 ixfL ((ixfU n l r g sl ge mk b ep er).hp) [] (ixfT n l r g sl ge mk b ep er ii) [Hint.b true, Hint.b false] (ixfT n l r g sl ge mk b ep er (ii + 1)) =
 some (Ex.norm, [(0 : Nat) = 0,
 n = n,
 (none : Option Nat) = none,
 (0 : Nat) = 0,
 (0 : Nat) = 0,
 (0 : Nat) = 0,
 n = n,
 (none : Option Nat) = none,
 Int.ofNat n = Int.ofNat n,
 IntKind.i64.wrap (Int.ofNat ii + 1) = Int.ofNat (ii + 1),
 r = r,
 l ≤ l,
 g = g ∧ plainSh tSh = true ∨ ∀ (i : Nat), i < l → rowOb tSh 0 (g i) (g i),
 sl = sl,
 ge = ge,
 mk = mk,
 b = b,
 ep = ep,
 er = er,
 (avInt (g (0 + ii) 4) != 0) = false,
 (0 + ii).blt l = true,
 (ii.blt n && decide (0 ≤ Int.ofNat ii)) = true,
 decide (Int.ofNat ii < Int.ofNat n) = true]) := by kernel_rfl
theorem ixfn_2 (n l : Nat) (r : Bool) (g : Nat → Nat → AV) (sl ge : Int) (mk : Bool) (b ep er : Int) (ii : Nat) : roundB EM0 2000 ixfL ((ixfU n l r g sl ge mk b ep er).hp) [] (ixfT n l r g sl ge mk b ep er ii) [Hint.b true, Hint.b true, Hint.b true, Hint.b true, Hint.b false] (ixfT n l r g sl ge mk b ep er (ii + 1)) =
 some (Ex.norm, [(0 : Nat) = 0,
 n = n,
 (none : Option Nat) = none,
 (0 : Nat) = 0,
 (0 : Nat) = 0,
 (0 : Nat) = 0,
 n = n,
 (none : Option Nat) = none,
 Int.ofNat n = Int.ofNat n,
 IntKind.i64.wrap (Int.ofNat ii + 1) = Int.ofNat (ii + 1),
 r = r,
 l ≤ l,
 g = g ∧ plainSh tSh = true ∨ ∀ (i : Nat), i < l → rowOb tSh 0 (g i) (g i),
 sl = sl,
 ge = ge,
 mk = mk,
 b = b,
 ep = ep,
 er = er,
 decide (b ≤ IntKind.u64.wrap (avInt (g (0 + ii) 5) - 1)) = false,
 decide (IntKind.u64.wrap (avInt (g (0 + ii) 4) - 1) ≤ er) = true,
 (avInt (g (0 + ii) 5) != 0) = true,
 (avInt (g (0 + ii) 4) != 0) = true,
 (0 + ii).blt l = true,
 (ii.blt n && decide (0 ≤ Int.ofNat ii)) = true,
 decide (Int.ofNat ii < Int.ofNat n) = true]) := by kernel_rfl
theorem ixfn_3 (n l : Nat) (r : Bool) (g : Nat → Nat → AV) (sl ge : Int) (mk : Bool) (b ep er : Int) (ii : Nat) : roundB EM0 2000 ixfL ((ixfU n l r g sl ge mk b ep er).hp) [] (ixfT n l r g sl ge mk b ep er ii) [Hint.b true, Hint.b true, Hint.b true, Hint.b false] (ixfT n l r g sl ge mk b ep er (ii + 1)) =
 some (Ex.norm, [(0 : Nat) = 0,
 n = n,
 (none : Option Nat) = none,
 (0 : Nat) = 0,
 (0 : Nat) = 0,
 (0 : Nat) = 0,
 n = n,
 (none : Option Nat) = none,
 Int.ofNat n = Int.ofNat n,
 IntKind.i64.wrap (Int.ofNat ii + 1) = Int.ofNat (ii + 1),
 r = r,
 l ≤ l,
 g = g ∧ plainSh tSh = true ∨ ∀ (i : Nat), i < l → rowOb tSh 0 (g i) (g i),
 sl = sl,
 ge = ge,
 mk = mk,
 b = b,
 ep = ep,
 er = er,
 decide (IntKind.u64.wrap (avInt (g (0 + ii) 4) - 1) ≤ er) = false,
 (avInt (g (0 + ii) 5) != 0) = true,
 (avInt (g (0 + ii) 4) != 0) = true,
 (0 + ii).blt l = true,
 (ii.blt n && decide (0 ≤ Int.ofNat ii)) = true,
 decide (Int.ofNat ii < Int.ofNat n) = true]) := by kernel_rfl
theorem ixfn_4 (n l : Nat) (r : Bool) (g : Nat → Nat → AV) (sl ge : Int) (mk : Bool) (b ep er : Int) (ii : Nat) : roundB EM0 2000 ixfL ((ixfU n l r g sl ge mk b ep er).hp) [] (ixfT n l r g sl ge mk b ep er ii) [Hint.b true, Hint.b true, Hint.b false] (ixfT n l r g sl ge mk b ep er (ii + 1)) =
 some (Ex.norm, [(0 : Nat) = 0,
 n = n,
 (none : Option Nat) = none,
 (0 : Nat) = 0,
 (0 : Nat) = 0,
 (0 : Nat) = 0,
 n = n,
 (none : Option Nat) = none,
 Int.ofNat n = Int.ofNat n,
 IntKind.i64.wrap (Int.ofNat ii + 1) = Int.ofNat (ii + 1),
 r = r,
 l ≤ l,
 g = g ∧ plainSh tSh = true ∨ ∀ (i : Nat), i < l → rowOb tSh 0 (g i) (g i),
 sl = sl,
 ge = ge,
 mk = mk,
 b = b,
 ep = ep,
 er = er,
 (avInt (g (0 + ii) 5) != 0) = false,
 (avInt (g (0 + ii) 4) != 0) = true,
 (0 + ii).blt l = true,
 (ii.blt n && decide (0 ≤ Int.ofNat ii)) = true,
 decide (Int.ofNat ii < Int.ofNat n) = true]) := by kernel_rfl
theorem ixfn_5 (n l : Nat) (r : Bool) (g : Nat → Nat → AV) (sl ge : Int) (mk : Bool) (b ep er : Int) (ii : Nat) : roundB EM0 2000 ixfL ((ixfU n l r g sl ge mk b ep er).hp) [] (ixfT n l r g sl ge mk b ep er ii) [Hint.b true, Hint.b false] (ixfT n l r g sl ge mk b ep er (ii + 1)) =
 some (Ex.norm, [(0 : Nat) = 0,
 n = n,
 (none : Option Nat) = none,
 (0 : Nat) = 0,
 (0 : Nat) = 0,
 (0 : Nat) = 0,
 n = n,
 (none : Option Nat) = none,
 Int.ofNat n = Int.ofNat n,
 IntKind.i64.wrap (Int.ofNat ii + 1) = Int.ofNat (ii + 1),
 r = r,
 l ≤ l,
 g = g ∧ plainSh tSh = true ∨ ∀ (i : Nat), i < l → rowOb tSh 0 (g i) (g i),
 sl = sl,
 ge = ge,
 mk = mk,
 b = b,
 ep = ep,
 er = er,
 (avInt (g (0 + ii) 4) != 0) = false,
 (0 + ii).blt l = true,
 (ii.blt n && decide (0 ≤ Int.ofNat ii)) = true,
 decide (Int.ofNat ii < Int.ofNat n) = true]) := by kernel_rfl
theorem ixfn_6 (n l : Nat) (r : Bool) (g : Nat → Nat → AV) (sl ge : Int) (mk : Bool) (b ep er : Int) (ii : Nat) : roundB EM0 2000 ixfL ((ixfU n l r g sl ge mk b ep er).hp) [] (ixfT n l r g sl ge mk b ep er ii) [Hint.b false] (ixfS n l r g sl ge mk b ep er) =
 some (Ex.exit 0, [r = r,
 l ≤ l,
 g = g ∧ plainSh tSh = true ∨ ∀ (i : Nat), i < l → rowOb tSh 0 (g i) (g i),
 sl = sl,
 ge = ge,
 mk = mk,
 b = b,
 ep = ep,
 er = er,
 decide (Int.ofNat ii < Int.ofNat n) = false]) := by kernel_rfl
theorem ixfi_1 (n l : Nat) (r : Bool) (g : Nat → Nat → AV) (sl ge : Int) (mk : Bool) (b ep er : Int) : castSt ((ixfU n l r g sl ge mk b ep er).hp) [] (ixfU n l r g sl ge mk b ep er) (ixfT n l r g sl ge mk b ep er 0) =
 some ([(0 : Nat) = 0,
 n = n,
 (none : Option Nat) = none,
 (0 : Nat) = 0,
 (0 : Nat) = 0,
 (0 : Nat) = 0,
 n = n,
 (none : Option Nat) = none,
 Int.ofNat n = Int.ofNat n,
 (0 : Int) = 0,
 r = r,
 l ≤ l,
 g = g ∧ plainSh tSh = true ∨ ∀ (i : Nat), i < l → rowOb tSh 0 (g i) (g i),
 sl = sl,
 ge = ge,
 mk = mk,
 b = b,
 ep = ep,
 er = er]) := by kernel_rfl
theorem ixfcf_1 (n l : Nat) (r : Bool) (g : Nat → Nat → AV) (sl ge : Int) (mk : Bool) (b ep er : Int) (k : Nat) : callB EM0 2000 91 [AV.ss 10 1 0 n none, AV.func (Fn.func 74) [] [AV.ptr 2 0 0]] (ixfH n l r g sl ge mk b ep er) (ixfR n l r g sl ge mk b ep er) [] [Hint.lp [0, 1, 6, 7, 8] Ex.ret (ixfQ n l r g sl ge mk b ep er k).tmps (ixfH n l r g sl ge mk b ep er) 3 []] =
 some ([Int.ofNat k = srch (ixfP n l r g sl ge mk b ep er) n (fun i => Int.ofNat i) (-1),
 r = r,
 l ≤ l,
 g = g ∧ plainSh tSh = true ∨ ∀ (i : Nat), i < l → rowOb tSh 0 (g i) (g i),
 sl = sl,
 ge = ge,
 mk = mk,
 b = b,
 ep = ep,
 er = er,
 ixfLF n l r g sl ge mk b ep er k]) := by kernel_rfl
theorem ixfcn_1 (n l : Nat) (r : Bool) (g : Nat → Nat → AV) (sl ge : Int) (mk : Bool) (b ep er : Int) : callB EM0 2000 91 [AV.ss 10 1 0 n none, AV.func (Fn.func 74) [] [AV.ptr 2 0 0]] (ixfH n l r g sl ge mk b ep er) (ixfR n l r g sl ge mk b ep er) [] [Hint.lp [0, 1, 6, 7, 8] (Ex.exit 0) (ixfS n l r g sl ge mk b ep er).tmps (ixfH n l r g sl ge mk b ep er) 3 []] =
 some ([-1 = srch (ixfP n l r g sl ge mk b ep er) n (fun i => Int.ofNat i) (-1),
 r = r,
 l ≤ l,
 g = g ∧ plainSh tSh = true ∨ ∀ (i : Nat), i < l → rowOb tSh 0 (g i) (g i),
 sl = sl,
 ge = ge,
 mk = mk,
 b = b,
 ep = ep,
 er = er,
 ixfLN n l r g sl ge mk b ep er]) := by kernel_rfl
theorem ixf_lpf (n l : Nat) (r : Bool) (g : Nat → Nat → AV) (sl ge : Int) (mk : Bool) (b ep er : Int) (hl : n ≤ l) (hm : n ≤ 1000000) (k : Nat) (hk : k < n) (qk2 : ixfP n l r g sl ge mk b ep er k = true) (qk3 : ∀ i, i < k → ixfP n l r g sl ge mk b ep er i = false) : ixfLF n l r g sl ge mk b ep er k := by
  refine loop_rule EM0_ok (I := Nat) (fun i => ixfT n l r g sl ge mk b ep er i) (fun i => k - i) (fun i => i ≤ k) ?_ (fun ii hi => ?_)
  ·
    refine ⟨0, [], _, Nat.zero_le _, ixfi_1 .., (ob_cons rfl (ob_cons rfl (ob_cons rfl (ob_cons rfl (ob_cons rfl (ob_cons rfl (ob_cons rfl (ob_cons rfl (ob_cons rfl (ob_cons rfl (ob_cons rfl (ob_cons (Nat.le_refl _) (ob_cons (.inl ⟨rfl, rfl⟩) (ob_cons rfl (ob_cons rfl (ob_cons rfl (ob_cons rfl (ob_cons rfl (ob_cons rfl ob_nil)))))))))))))))))))⟩
  cases h1 : (avInt (g (0 + ii) 4) != 0) with
  | true =>
    cases h2 : (avInt (g (0 + ii) 5) != 0) with
    | true =>
      cases h3 : (decide (IntKind.u64.wrap (avInt (g (0 + ii) 4) - 1) ≤ er)) with
      | true =>
        have g3 := of_decide_eq_true h3
        try simp only [Int.ofNat_eq_natCast, ge_iff_le, gt_iff_lt, Int.not_lt, Int.not_le] at g3
        cases h4 : (decide (b ≤ IntKind.u64.wrap (avInt (g (0 + ii) 5) - 1))) with
        | true =>
          have g4 := of_decide_eq_true h4
          try simp only [Int.ofNat_eq_natCast, ge_iff_le, gt_iff_lt, Int.not_lt, Int.not_le] at g4
          have hpp : ixfP n l r g sl ge mk b ep er ii = true := by (unfold ixfP; (try rw [h1]); (try rw [h2]); (try rw [h3]); (try rw [h4]); first | done | rfl | (simp; done) | (simp_all; done) | (simp_all [and2]; done))
          have hke : ii = k := by (rcases Nat.lt_or_ge ii k with q | q <;> first | (rw [qk3 ii q] at hpp; cases hpp) | omega)
          subst hke
          refine round_exit (s0 := ixfU n l r g sl ge mk b ep er) (ixff_1 ..) (by simp) (ob_cons rfl (ob_cons rfl (ob_cons (Nat.le_refl _) (ob_cons (.inl ⟨rfl, rfl⟩) (ob_cons rfl (ob_cons rfl (ob_cons rfl (ob_cons rfl (ob_cons rfl (ob_cons rfl (ob_cons h4 (ob_cons h3 (ob_cons h2 (ob_cons h1 (ob_cons ?_ (ob_cons ?_ (ob_cons ?_ ob_nil)))))))))))))))))
          ·
            first | (apply Nat.ble_eq_true_of_le; omega) | (simp [Nat.blt_eq]; omega) | (simp; omega)
          ·
            first | (apply Nat.ble_eq_true_of_le; omega) | (simp [Nat.blt_eq]; omega) | (simp; omega)
          ·
            first | (apply Nat.ble_eq_true_of_le; omega) | (simp [Nat.blt_eq]; omega) | (simp; omega)
        | false =>
          have g4 := of_decide_eq_false h4
          try simp only [Int.ofNat_eq_natCast, ge_iff_le, gt_iff_lt, Int.not_lt, Int.not_le] at g4
          have hpp : ixfP n l r g sl ge mk b ep er ii = false := by (unfold ixfP; (try rw [h1]); (try rw [h2]); (try rw [h3]); (try rw [h4]); first | done | rfl | (simp; done) | (simp_all; done) | (simp_all [and2]; done))
          have hne : ii ≠ k := fun e => by (subst e; rw [qk2] at hpp; cases hpp)
          refine round_norm (s0 := ixfU n l r g sl ge mk b ep er) (ii + 1) (ixff_2 ..) (ob_cons rfl (ob_cons rfl (ob_cons rfl (ob_cons rfl (ob_cons rfl (ob_cons rfl (ob_cons rfl (ob_cons rfl (ob_cons rfl (ob_cons ?_ (ob_cons rfl (ob_cons (Nat.le_refl _) (ob_cons (.inl ⟨rfl, rfl⟩) (ob_cons rfl (ob_cons rfl (ob_cons rfl (ob_cons rfl (ob_cons rfl (ob_cons rfl (ob_cons h4 (ob_cons h3 (ob_cons h2 (ob_cons h1 (ob_cons ?_ (ob_cons ?_ (ob_cons ?_ ob_nil)))))))))))))))))))))))))) (by show ii + 1 ≤ k; omega) (by show k - (ii + 1) < k - ii; omega)
          ·
            first | exact wrap_nat64 _ (by simp; omega) (by simp; omega) | (simp; omega)
          ·
            first | (apply Nat.ble_eq_true_of_le; omega) | (simp [Nat.blt_eq]; omega) | (simp; omega)
          ·
            first | (apply Nat.ble_eq_true_of_le; omega) | (simp [Nat.blt_eq]; omega) | (simp; omega)
          ·
            first | (apply Nat.ble_eq_true_of_le; omega) | (simp [Nat.blt_eq]; omega) | (simp; omega)
      | false =>
        have g3 := of_decide_eq_false h3
        try simp only [Int.ofNat_eq_natCast, ge_iff_le, gt_iff_lt, Int.not_lt, Int.not_le] at g3
        have hpp : ixfP n l r g sl ge mk b ep er ii = false := by (unfold ixfP; (try rw [h1]); (try rw [h2]); (try rw [h3]); first | done | rfl | (simp; done) | (simp_all; done) | (simp_all [and2]; done))
        have hne : ii ≠ k := fun e => by (subst e; rw [qk2] at hpp; cases hpp)
        refine round_norm (s0 := ixfU n l r g sl ge mk b ep er) (ii + 1) (ixff_3 ..) (ob_cons rfl (ob_cons rfl (ob_cons rfl (ob_cons rfl (ob_cons rfl (ob_cons rfl (ob_cons rfl (ob_cons rfl (ob_cons rfl (ob_cons ?_ (ob_cons rfl (ob_cons (Nat.le_refl _) (ob_cons (.inl ⟨rfl, rfl⟩) (ob_cons rfl (ob_cons rfl (ob_cons rfl (ob_cons rfl (ob_cons rfl (ob_cons rfl (ob_cons h3 (ob_cons h2 (ob_cons h1 (ob_cons ?_ (ob_cons ?_ (ob_cons ?_ ob_nil))))))))))))))))))))))))) (by show ii + 1 ≤ k; omega) (by show k - (ii + 1) < k - ii; omega)
        ·
          first | exact wrap_nat64 _ (by simp; omega) (by simp; omega) | (simp; omega)
        ·
          first | (apply Nat.ble_eq_true_of_le; omega) | (simp [Nat.blt_eq]; omega) | (simp; omega)
        ·
          first | (apply Nat.ble_eq_true_of_le; omega) | (simp [Nat.blt_eq]; omega) | (simp; omega)
        ·
          first | (apply Nat.ble_eq_true_of_le; omega) | (simp [Nat.blt_eq]; omega) | (simp; omega)
    | false =>
      have hpp : ixfP n l r g sl ge mk b ep er ii = false := by (unfold ixfP; (try rw [h1]); (try rw [h2]); first | done | rfl | (simp; done) | (simp_all; done) | (simp_all [and2]; done))
      have hne : ii ≠ k := fun e => by (subst e; rw [qk2] at hpp; cases hpp)
      refine round_norm (s0 := ixfU n l r g sl ge mk b ep er) (ii + 1) (ixff_4 ..) (ob_cons rfl (ob_cons rfl (ob_cons rfl (ob_cons rfl (ob_cons rfl (ob_cons rfl (ob_cons rfl (ob_cons rfl (ob_cons rfl (ob_cons ?_ (ob_cons rfl (ob_cons (Nat.le_refl _) (ob_cons (.inl ⟨rfl, rfl⟩) (ob_cons rfl (ob_cons rfl (ob_cons rfl (ob_cons rfl (ob_cons rfl (ob_cons rfl (ob_cons h2 (ob_cons h1 (ob_cons ?_ (ob_cons ?_ (ob_cons ?_ ob_nil)))))))))))))))))))))))) (by show ii + 1 ≤ k; omega) (by show k - (ii + 1) < k - ii; omega)
      ·
        first | exact wrap_nat64 _ (by simp; omega) (by simp; omega) | (simp; omega)
      ·
        first | (apply Nat.ble_eq_true_of_le; omega) | (simp [Nat.blt_eq]; omega) | (simp; omega)
      ·
        first | (apply Nat.ble_eq_true_of_le; omega) | (simp [Nat.blt_eq]; omega) | (simp; omega)
      ·
        first | (apply Nat.ble_eq_true_of_le; omega) | (simp [Nat.blt_eq]; omega) | (simp; omega)
  | false =>
    have hpp : ixfP n l r g sl ge mk b ep er ii = false := by (unfold ixfP; (try rw [h1]); first | done | rfl | (simp; done) | (simp_all; done) | (simp_all [and2]; done))
    have hne : ii ≠ k := fun e => by (subst e; rw [qk2] at hpp; cases hpp)
    refine round_norm (s0 := ixfU n l r g sl ge mk b ep er) (ii + 1) (ixff_5 ..) (ob_cons rfl (ob_cons rfl (ob_cons rfl (ob_cons rfl (ob_cons rfl (ob_cons rfl (ob_cons rfl (ob_cons rfl (ob_cons rfl (ob_cons ?_ (ob_cons rfl (ob_cons (Nat.le_refl _) (ob_cons (.inl ⟨rfl, rfl⟩) (ob_cons rfl (ob_cons rfl (ob_cons rfl (ob_cons rfl (ob_cons rfl (ob_cons rfl (ob_cons h1 (ob_cons ?_ (ob_cons ?_ (ob_cons ?_ ob_nil))))))))))))))))))))))) (by show ii + 1 ≤ k; omega) (by show k - (ii + 1) < k - ii; omega)
    ·
      first | exact wrap_nat64 _ (by simp; omega) (by simp; omega) | (simp; omega)
    ·
      first | (apply Nat.ble_eq_true_of_le; omega) | (simp [Nat.blt_eq]; omega) | (simp; omega)
    ·
      first | (apply Nat.ble_eq_true_of_le; omega) | (simp [Nat.blt_eq]; omega) | (simp; omega)
    ·
      first | (apply Nat.ble_eq_true_of_le; omega) | (simp [Nat.blt_eq]; omega) | (simp; omega)
theorem ixf_lpn (n l : Nat) (r : Bool) (g : Nat → Nat → AV) (sl ge : Int) (mk : Bool) (b ep er : Int) (hl : n ≤ l) (hm : n ≤ 1000000) (qno : ∀ i, i < n → ixfP n l r g sl ge mk b ep er i = false) : ixfLN n l r g sl ge mk b ep er := by
  refine loop_rule EM0_ok (I := Nat) (fun i => ixfT n l r g sl ge mk b ep er i) (fun i => n - i) (fun i => i ≤ n) ?_ (fun ii hi => ?_)
  ·
    refine ⟨0, [], _, Nat.zero_le _, ixfi_1 .., (ob_cons rfl (ob_cons rfl (ob_cons rfl (ob_cons rfl (ob_cons rfl (ob_cons rfl (ob_cons rfl (ob_cons rfl (ob_cons rfl (ob_cons rfl (ob_cons rfl (ob_cons (Nat.le_refl _) (ob_cons (.inl ⟨rfl, rfl⟩) (ob_cons rfl (ob_cons rfl (ob_cons rfl (ob_cons rfl (ob_cons rfl (ob_cons rfl ob_nil)))))))))))))))))))⟩
  cases h1 : (decide (Int.ofNat ii < Int.ofNat n)) with
  | true =>
    have g1 := of_decide_eq_true h1
    try simp only [Int.ofNat_eq_natCast, ge_iff_le, gt_iff_lt, Int.not_lt, Int.not_le] at g1
    cases h2 : (avInt (g (0 + ii) 4) != 0) with
    | true =>
      cases h3 : (avInt (g (0 + ii) 5) != 0) with
      | true =>
        cases h4 : (decide (IntKind.u64.wrap (avInt (g (0 + ii) 4) - 1) ≤ er)) with
        | true =>
          have g4 := of_decide_eq_true h4
          try simp only [Int.ofNat_eq_natCast, ge_iff_le, gt_iff_lt, Int.not_lt, Int.not_le] at g4
          refine round_norm (s0 := ixfU n l r g sl ge mk b ep er) (ii + 1) (ixfn_2 ..) (ob_cons rfl (ob_cons rfl (ob_cons rfl (ob_cons rfl (ob_cons rfl (ob_cons rfl (ob_cons rfl (ob_cons rfl (ob_cons rfl (ob_cons ?_ (ob_cons rfl (ob_cons (Nat.le_refl _) (ob_cons (.inl ⟨rfl, rfl⟩) (ob_cons rfl (ob_cons rfl (ob_cons rfl (ob_cons rfl (ob_cons rfl (ob_cons rfl (ob_cons ?_ (ob_cons h4 (ob_cons h3 (ob_cons h2 (ob_cons ?_ (ob_cons ?_ (ob_cons h1 ob_nil)))))))))))))))))))))))))) (by show ii + 1 ≤ n; omega) (by show n - (ii + 1) < n - ii; omega)
          ·
            first | exact wrap_nat64 _ (by simp; omega) (by simp; omega) | (simp; omega) | (have q := qno ii (by omega); unfold ixfP at q; (try simp only [h1, h2, h3, h4] at q); (try simp [and2] at q); (try simp); first | exact q | omega | (simp_all; done))
          ·
            first | (apply Nat.ble_eq_true_of_le; omega) | (simp [Nat.blt_eq]; omega) | (simp; omega) | (have q := qno ii (by omega); unfold ixfP at q; (try simp only [h1, h2, h3, h4] at q); (try simp [and2] at q); (try simp); first | exact q | omega | (simp_all; done))
          ·
            first | (apply Nat.ble_eq_true_of_le; omega) | (simp [Nat.blt_eq]; omega) | (simp; omega) | (have q := qno ii (by omega); unfold ixfP at q; (try simp only [h1, h2, h3, h4] at q); (try simp [and2] at q); (try simp); first | exact q | omega | (simp_all; done))
          ·
            first | (apply Nat.ble_eq_true_of_le; omega) | (simp [Nat.blt_eq]; omega) | (simp; omega) | (have q := qno ii (by omega); unfold ixfP at q; (try simp only [h1, h2, h3, h4] at q); (try simp [and2] at q); (try simp); first | exact q | omega | (simp_all; done))
        | false =>
          have g4 := of_decide_eq_false h4
          try simp only [Int.ofNat_eq_natCast, ge_iff_le, gt_iff_lt, Int.not_lt, Int.not_le] at g4
          refine round_norm (s0 := ixfU n l r g sl ge mk b ep er) (ii + 1) (ixfn_3 ..) (ob_cons rfl (ob_cons rfl (ob_cons rfl (ob_cons rfl (ob_cons rfl (ob_cons rfl (ob_cons rfl (ob_cons rfl (ob_cons rfl (ob_cons ?_ (ob_cons rfl (ob_cons (Nat.le_refl _) (ob_cons (.inl ⟨rfl, rfl⟩) (ob_cons rfl (ob_cons rfl (ob_cons rfl (ob_cons rfl (ob_cons rfl (ob_cons rfl (ob_cons h4 (ob_cons h3 (ob_cons h2 (ob_cons ?_ (ob_cons ?_ (ob_cons h1 ob_nil))))))))))))))))))))))))) (by show ii + 1 ≤ n; omega) (by show n - (ii + 1) < n - ii; omega)
          ·
            first | exact wrap_nat64 _ (by simp; omega) (by simp; omega) | (simp; omega) | (have q := qno ii (by omega); unfold ixfP at q; (try simp only [h1, h2, h3, h4] at q); (try simp [and2] at q); (try simp); first | exact q | omega | (simp_all; done))
          ·
            first | (apply Nat.ble_eq_true_of_le; omega) | (simp [Nat.blt_eq]; omega) | (simp; omega) | (have q := qno ii (by omega); unfold ixfP at q; (try simp only [h1, h2, h3, h4] at q); (try simp [and2] at q); (try simp); first | exact q | omega | (simp_all; done))
          ·
            first | (apply Nat.ble_eq_true_of_le; omega) | (simp [Nat.blt_eq]; omega) | (simp; omega) | (have q := qno ii (by omega); unfold ixfP at q; (try simp only [h1, h2, h3, h4] at q); (try simp [and2] at q); (try simp); first | exact q | omega | (simp_all; done))
      | false =>
        refine round_norm (s0 := ixfU n l r g sl ge mk b ep er) (ii + 1) (ixfn_4 ..) (ob_cons rfl (ob_cons rfl (ob_cons rfl (ob_cons rfl (ob_cons rfl (ob_cons rfl (ob_cons rfl (ob_cons rfl (ob_cons rfl (ob_cons ?_ (ob_cons rfl (ob_cons (Nat.le_refl _) (ob_cons (.inl ⟨rfl, rfl⟩) (ob_cons rfl (ob_cons rfl (ob_cons rfl (ob_cons rfl (ob_cons rfl (ob_cons rfl (ob_cons h3 (ob_cons h2 (ob_cons ?_ (ob_cons ?_ (ob_cons h1 ob_nil)))))))))))))))))))))))) (by show ii + 1 ≤ n; omega) (by show n - (ii + 1) < n - ii; omega)
        ·
          first | exact wrap_nat64 _ (by simp; omega) (by simp; omega) | (simp; omega) | (have q := qno ii (by omega); unfold ixfP at q; (try simp only [h1, h2, h3] at q); (try simp [and2] at q); (try simp); first | exact q | omega | (simp_all; done))
        ·
          first | (apply Nat.ble_eq_true_of_le; omega) | (simp [Nat.blt_eq]; omega) | (simp; omega) | (have q := qno ii (by omega); unfold ixfP at q; (try simp only [h1, h2, h3] at q); (try simp [and2] at q); (try simp); first | exact q | omega | (simp_all; done))
        ·
          first | (apply Nat.ble_eq_true_of_le; omega) | (simp [Nat.blt_eq]; omega) | (simp; omega) | (have q := qno ii (by omega); unfold ixfP at q; (try simp only [h1, h2, h3] at q); (try simp [and2] at q); (try simp); first | exact q | omega | (simp_all; done))
    | false =>
      refine round_norm (s0 := ixfU n l r g sl ge mk b ep er) (ii + 1) (ixfn_5 ..) (ob_cons rfl (ob_cons rfl (ob_cons rfl (ob_cons rfl (ob_cons rfl (ob_cons rfl (ob_cons rfl (ob_cons rfl (ob_cons rfl (ob_cons ?_ (ob_cons rfl (ob_cons (Nat.le_refl _) (ob_cons (.inl ⟨rfl, rfl⟩) (ob_cons rfl (ob_cons rfl (ob_cons rfl (ob_cons rfl (ob_cons rfl (ob_cons rfl (ob_cons h2 (ob_cons ?_ (ob_cons ?_ (ob_cons h1 ob_nil))))))))))))))))))))))) (by show ii + 1 ≤ n; omega) (by show n - (ii + 1) < n - ii; omega)
      ·
        first | exact wrap_nat64 _ (by simp; omega) (by simp; omega) | (simp; omega) | (have q := qno ii (by omega); unfold ixfP at q; (try simp only [h1, h2] at q); (try simp [and2] at q); (try simp); first | exact q | omega | (simp_all; done))
      ·
        first | (apply Nat.ble_eq_true_of_le; omega) | (simp [Nat.blt_eq]; omega) | (simp; omega) | (have q := qno ii (by omega); unfold ixfP at q; (try simp only [h1, h2] at q); (try simp [and2] at q); (try simp); first | exact q | omega | (simp_all; done))
      ·
        first | (apply Nat.ble_eq_true_of_le; omega) | (simp [Nat.blt_eq]; omega) | (simp; omega) | (have q := qno ii (by omega); unfold ixfP at q; (try simp only [h1, h2] at q); (try simp [and2] at q); (try simp); first | exact q | omega | (simp_all; done))
  | false =>
    have g1 := of_decide_eq_false h1
    try simp only [Int.ofNat_eq_natCast, ge_iff_le, gt_iff_lt, Int.not_lt, Int.not_le] at g1
    refine round_exit (s0 := ixfU n l r g sl ge mk b ep er) (ixfn_6 ..) (by simp) (ob_cons rfl (ob_cons (Nat.le_refl _) (ob_cons (.inl ⟨rfl, rfl⟩) (ob_cons rfl (ob_cons rfl (ob_cons rfl (ob_cons rfl (ob_cons rfl (ob_cons rfl (ob_cons h1 ob_nil))))))))))
theorem ixf_loc (n l : Nat) (r : Bool) (g : Nat → Nat → AV) (sl ge : Int) (mk : Bool) (b ep er : Int) : LocOk Try.prog 91 [.ss 10 1 0 n none, .func (.func 74) [] [.ptr 2 0 0]] (ixfH n l r g sl ge mk b ep er) (ixfR n l r g sl ge mk b ep er) := by
  refine loc_of_call EM0_ok (fun hp => ?_)
  have hl : n ≤ l := hp _ (List.mem_cons_self ..)
  have hm : n ≤ 1000000 := hp _ (List.mem_cons_of_mem _ (List.mem_cons_self ..))
  clear hp
  rcases first_true (ixfP n l r g sl ge mk b ep er) (n) with qno | ⟨k, hk, qk2, qk3⟩
  · have hln := ixf_lpn n l r g sl ge mk b ep er hl hm qno
    refine ⟨2000, _, _, _, ixfcn_1 .., (ob_cons ?_ (ob_cons rfl (ob_cons (Nat.le_refl _) (ob_cons (.inl ⟨rfl, rfl⟩) (ob_cons rfl (ob_cons rfl (ob_cons rfl (ob_cons rfl (ob_cons rfl (ob_cons rfl (ob_cons ?_ ob_nil)))))))))))⟩
    ·
      first | rfl | exact hln | (simp only [srch_no qno, srchB_no qno]; done) | (rw [srch_no qno]; done)
    ·
      first | trivial | exact hln | (simp only [srch_no qno, srchB_no qno]; done) | (rw [srch_no qno]; done)
  · have hlf := ixf_lpf n l r g sl ge mk b ep er hl hm k hk qk2 qk3
    refine ⟨2000, _, _, _, ixfcf_1 n l r g sl ge mk b ep er k, (ob_cons ?_ (ob_cons rfl (ob_cons (Nat.le_refl _) (ob_cons (.inl ⟨rfl, rfl⟩) (ob_cons rfl (ob_cons rfl (ob_cons rfl (ob_cons rfl (ob_cons rfl (ob_cons rfl (ob_cons ?_ ob_nil)))))))))))⟩
    ·
      first | rfl | exact hlf | (simp only [srch_at hk qk2 qk3, srchB_at hk qk2 qk3]; done) | (rw [srch_at hk qk2 qk3]; done)
    ·
      first | trivial | exact hlf | (simp only [srch_at hk qk2 qk3, srchB_at hk qk2 qk3]; done) | (rw [srch_at hk qk2 qk3]; done)
noncomputable def ixfSpec : LSpec := fun la lh => match la, lh with
  | [.ss z1 z2 z3 n none, .func (.func z4) [] [.ptr z5 z6 z7]], [(z8, .arr z9 z10 r l g), (z11, .cells z12 [.sym .i64 sl, .sym .u32 ge, .symb mk, .sym .u64 b, .sym .u64 ep, .sym .u64 er])] =>
    match Nat.beq z1 10 && (Nat.beq z2 1 && (Nat.beq z3 0 && (Nat.beq z4 74 && (Nat.beq z5 2 && (Nat.beq z6 0 && (Nat.beq z7 0 && (Nat.beq z8 1 && (Nat.beq z9 10 && (shBeq z10 tSh && (Nat.beq z11 2 && (Nat.beq z12 6))))))))))) with
    | true => some (ixfR n l r g sl ge mk b ep er)
    | false => none
  | _, _ => none
theorem ixfSpec_ok (la : List AV) (lh : List (Nat × AO)) (R : LR) (h : ixfSpec la lh = some R) : LocOk Try.prog 91 la lh R := by
  unfold ixfSpec at h
  split at h
  · rename_i z1 z2 z3 n z4 z5 z6 z7 z8 z9 z10 r l g z11 z12 sl ge mk b ep er
    split at h
    · rename_i hb
      simp only [Bool.and_eq_true] at hb
      obtain ⟨e1, e2, e3, e4, e5, e6, e7, e8, e9, e10, e11, e12⟩ := hb
      have e1 := Nat.eq_of_beq_eq_true e1; subst e1
      have e2 := Nat.eq_of_beq_eq_true e2; subst e2
      have e3 := Nat.eq_of_beq_eq_true e3; subst e3
      have e4 := Nat.eq_of_beq_eq_true e4; subst e4
      have e5 := Nat.eq_of_beq_eq_true e5; subst e5
      have e6 := Nat.eq_of_beq_eq_true e6; subst e6
      have e7 := Nat.eq_of_beq_eq_true e7; subst e7
      have e8 := Nat.eq_of_beq_eq_true e8; subst e8
      have e9 := Nat.eq_of_beq_eq_true e9; subst e9
      have e10 := shBeq_eq e10; subst e10
      have e11 := Nat.eq_of_beq_eq_true e11; subst e11
      have e12 := Nat.eq_of_beq_eq_true e12; subst e12
      cases h
      exact ixf_loc n l r g sl ge mk b ep er
    · cases h
  · cases h

theorem rmaf_1 (n l : Nat) (r : Bool) (g : Nat → Nat → AV) (sl ge : Int) (mk : Bool) (b ep er : Int) (ew : Int) (ii : Nat) : roundB EM0 2000 rmaL ((rmaU n l r g sl ge mk b ep er ew).hp) [] (rmaT n l r g sl ge mk b ep er ew ii) [Hint.b true, Hint.b true] (rmaT n l r g sl ge mk b ep er ew (ii + 1)) =
 some (Ex.norm, [(0 : Nat) = 0,
 (0 : Nat) = 0,
 (0 : Nat) = 0,
 (0 : Nat) = 0,
 IntKind.i64.wrap (Int.ofNat ii + 1) = Int.ofNat (ii + 1),
 (0 : Nat) = 0,
 n = n,
 (none : Option Nat) = none,
 ew = ew,
 sl = sl,
 ge = ge,
 mk = mk,
 b = b,
 ep = ep,
 er = er,
 r = r,
 l ≤ l,
 g = g ∧ plainSh tSh = true ∨ ∀ (i : Nat), i < l → rowOb tSh 0 (g i) (g i),
 (avInt (g (0 + ii) 4) == 0) = true,
 (0 + ii).blt l = true,
 (ii.blt n && decide (0 ≤ Int.ofNat ii)) = true,
 decide (Int.ofNat ii < Int.ofNat n) = true]) := by kernel_rfl
theorem rmaf_2 (n l : Nat) (r : Bool) (g : Nat → Nat → AV) (sl ge : Int) (mk : Bool) (b ep er : Int) (ew : Int) (ii : Nat) : roundB EM0 2000 rmaL ((rmaU n l r g sl ge mk b ep er ew).hp) [] (rmaT n l r g sl ge mk b ep er ew ii) [Hint.b true, Hint.b false, Hint.b true] (rmaT n l r g sl ge mk b ep er ew (ii + 1)) =
 some (Ex.norm, [(0 : Nat) = 0,
 (0 : Nat) = 0,
 (0 : Nat) = 0,
 (0 : Nat) = 0,
 IntKind.i64.wrap (Int.ofNat ii + 1) = Int.ofNat (ii + 1),
 (0 : Nat) = 0,
 n = n,
 (none : Option Nat) = none,
 ew = ew,
 sl = sl,
 ge = ge,
 mk = mk,
 b = b,
 ep = ep,
 er = er,
 r = r,
 l ≤ l,
 g = g ∧ plainSh tSh = true ∨ ∀ (i : Nat), i < l → rowOb tSh 0 (g i) (g i),
 (avInt (g (0 + ii) 5) == 0) = true,
 (avInt (g (0 + ii) 4) == 0) = false,
 (0 + ii).blt l = true,
 (ii.blt n && decide (0 ≤ Int.ofNat ii)) = true,
 decide (Int.ofNat ii < Int.ofNat n) = true]) := by kernel_rfl
theorem rmaf_3 (n l : Nat) (r : Bool) (g : Nat → Nat → AV) (sl ge : Int) (mk : Bool) (b ep er : Int) (ew : Int) (ii : Nat) : roundB EM0 2000 rmaL ((rmaU n l r g sl ge mk b ep er ew).hp) [] (rmaT n l r g sl ge mk b ep er ew ii) [Hint.b true, Hint.b false, Hint.b false, Hint.b true, Hint.b true] (rmaQ n l r g sl ge mk b ep er ew ii) =
 some (Ex.ret, [(0 : Nat) = 0,
 n = n,
 (none : Option Nat) = none,
 ew = ew,
 sl = sl,
 ge = ge,
 mk = mk,
 b = b,
 ep = ep,
 er = er,
 r = r,
 l ≤ l,
 g = g ∧ plainSh tSh = true ∨ ∀ (i : Nat), i < l → rowOb tSh 0 (g i) (g i),
 decide (IntKind.u64.wrap (avInt (g (0 + ii) 5) - 1) ≥ b) = true,
 decide (IntKind.u64.wrap (avInt (g (0 + ii) 4) - 1) ≤ er) = true,
 (avInt (g (0 + ii) 5) == 0) = false,
 (avInt (g (0 + ii) 4) == 0) = false,
 (0 + ii).blt l = true,
 (ii.blt n && decide (0 ≤ Int.ofNat ii)) = true,
 decide (Int.ofNat ii < Int.ofNat n) = true]) := by kernel_rfl
theorem rmaf_4 (n l : Nat) (r : Bool) (g : Nat → Nat → AV) (sl ge : Int) (mk : Bool) (b ep er : Int) (ew : Int) (ii : Nat) : roundB EM0 2000 rmaL ((rmaU n l r g sl ge mk b ep er ew).hp) [] (rmaT n l r g sl ge mk b ep er ew ii) [Hint.b true, Hint.b false, Hint.b false, Hint.b true, Hint.b false] (rmaT n l r g sl ge mk b ep er ew (ii + 1)) =
 some (Ex.norm, [(0 : Nat) = 0,
 (0 : Nat) = 0,
 (0 : Nat) = 0,
 (0 : Nat) = 0,
 IntKind.i64.wrap (Int.ofNat ii + 1) = Int.ofNat (ii + 1),
 (0 : Nat) = 0,
 n = n,
 (none : Option Nat) = none,
 ew = ew,
 sl = sl,
 ge = ge,
 mk = mk,
 b = b,
 ep = ep,
 er = er,
 r = r,
 l ≤ l,
 g = g ∧ plainSh tSh = true ∨ ∀ (i : Nat), i < l → rowOb tSh 0 (g i) (g i),
 decide (IntKind.u64.wrap (avInt (g (0 + ii) 5) - 1) ≥ b) = false,
 decide (IntKind.u64.wrap (avInt (g (0 + ii) 4) - 1) ≤ er) = true,
 (avInt (g (0 + ii) 5) == 0) = false,
 (avInt (g (0 + ii) 4) == 0) = false,
 (0 + ii).blt l = true,
 (ii.blt n && decide (0 ≤ Int.ofNat ii)) = true,
 decide (Int.ofNat ii < Int.ofNat n) = true]) := by kernel_rfl
theorem rmaf_5 (n l : Nat) (r : Bool) (g : Nat → Nat → AV) (sl ge : Int) (mk : Bool) (b ep er : Int) (ew : Int) (ii : Nat) : roundB EM0 2000 rmaL ((rmaU n l r g sl ge mk b ep er ew).hp) [] (rmaT n l r g sl ge mk b ep er ew ii) [Hint.b true, Hint.b false, Hint.b false, Hint.b false] (rmaT n l r g sl ge mk b ep er ew (ii + 1)) =
 some (Ex.norm, [(0 : Nat) = 0,
 (0 : Nat) = 0,
 (0 : Nat) = 0,
 (0 : Nat) = 0,
 IntKind.i64.wrap (Int.ofNat ii + 1) = Int.ofNat (ii + 1),
 (0 : Nat) = 0,
 n = n,
 (none : Option Nat) = none,
 ew = ew,
 sl = sl,
 ge = ge,
 mk = mk,
 b = b,
 ep = ep,
 er = er,
 r = r,
 l ≤ l,
 g = g ∧ plainSh tSh = true ∨ ∀ (i : Nat), i < l → rowOb tSh 0 (g i) (g i),
 decide (IntKind.u64.wrap (avInt (g (0 + ii) 4) - 1) ≤ er) = false,
 (avInt (g (0 + ii) 5) == 0) = false,
 (avInt (g (0 + ii) 4) == 0) = false,
 (0 + ii).blt l = true,
 (ii.blt n && decide (0 ≤ Int.ofNat ii)) = true,
 decide (Int.ofNat ii < Int.ofNat n) = true]) := by kernel_rfl
theorem rman_1 (n l : Nat) (r : Bool) (g : Nat → Nat → AV) (sl ge : Int) (mk : Bool) (b ep er : Int) (ew : Int) (ii : Nat) : roundB EM0 2000 rmaL ((rmaU n l r g sl ge mk b ep er ew).hp) [] (rmaT n l r g sl ge mk b ep er ew ii) [Hint.b true, Hint.b true] (rmaT n l r g sl ge mk b ep er ew (ii + 1)) =
 some (Ex.norm, [(0 : Nat) = 0,
 (0 : Nat) = 0,
 (0 : Nat) = 0,
 (0 : Nat) = 0,
 IntKind.i64.wrap (Int.ofNat ii + 1) = Int.ofNat (ii + 1),
 (0 : Nat) = 0,
 n = n,
 (none : Option Nat) = none,
 ew = ew,
 sl = sl,
 ge = ge,
 mk = mk,
 b = b,
 ep = ep,
 er = er,
 r = r,
 l ≤ l,
 g = g ∧ plainSh tSh = true ∨ ∀ (i : Nat), i < l → rowOb tSh 0 (g i) (g i),
 (avInt (g (0 + ii) 4) == 0) = true,
 (0 + ii).blt l = true,
 (ii.blt n && decide (0 ≤ Int.ofNat ii)) = true,
 decide (Int.ofNat ii < Int.ofNat n) = true]) := by kernel_rfl
theorem rman_2 (n l : Nat) (r : Bool) (g : Nat → Nat → AV) (sl ge : Int) (mk : Bool) (b ep er : Int) (ew : Int) (ii : Nat) : roundB EM0 2000 rmaL ((rmaU n l r g sl ge mk b ep er ew).hp) [] (rmaT n l r g sl ge mk b ep er ew ii) [Hint.b true, Hint.b false, Hint.b true] (rmaT n l r g sl ge mk b ep er ew (ii + 1)) =
 some (Ex.norm, [(0 : Nat) = 0,
 (0 : Nat) = 0,
 (0 : Nat) = 0,
 (0 : Nat) = 0,
 IntKind.i64.wrap (Int.ofNat ii + 1) = Int.ofNat (ii + 1),
 (0 : Nat) = 0,
 n = n,
 (none : Option Nat) = none,
 ew = ew,
 sl = sl,
 ge = ge,
 mk = mk,
 b = b,
 ep = ep,
 er = er,
 r = r,
 l ≤ l,
 g = g ∧ plainSh tSh = true ∨ ∀ (i : Nat), i < l → rowOb tSh 0 (g i) (g i),
 (avInt (g (0 + ii) 5) == 0) = true,
 (avInt (g (0 + ii) 4) == 0) = false,
 (0 + ii).blt l = true,
 (ii.blt n && decide (0 ≤ Int.ofNat ii)) = true,
 decide (Int.ofNat ii < Int.ofNat n) = true]) := by kernel_rfl
theorem rman_4 (n l : Nat) (r : Bool) (g : Nat → Nat → AV) (sl ge : Int) (mk : Bool) (b ep er : Int) (ew : Int) (ii : Nat) : roundB EM0 2000 rmaL ((rmaU n l r g sl ge mk b ep er ew).hp) [] (rmaT n l r g sl ge mk b ep er ew ii) [Hint.b true, Hint.b false, Hint.b false, Hint.b true, Hint.b false] (rmaT n l r g sl ge mk b ep er ew (ii + 1)) =
 some (Ex.norm, [(0 : Nat) = 0,
 (0 : Nat) = 0,
 (0 : Nat) = 0,
 (0 : Nat) = 0,
 IntKind.i64.wrap (Int.ofNat ii + 1) = Int.ofNat (ii + 1),
 (0 : Nat) = 0,
 n = n,
 (none : Option Nat) = none,
 ew = ew,
 sl = sl,
 ge = ge,
 mk = mk,
 b = b,
 ep = ep,
 er = er,
 r = r,
 l ≤ l,
 g = g ∧ plainSh tSh = true ∨ ∀ (i : Nat), i < l → rowOb tSh 0 (g i) (g i),
 decide (IntKind.u64.wrap (avInt (g (0 + ii) 5) - 1) ≥ b) = false,
 decide (IntKind.u64.wrap (avInt (g (0 + ii) 4) - 1) ≤ er) = true,
 (avInt (g (0 + ii) 5) == 0) = false,
 (avInt (g (0 + ii) 4) == 0) = false,
 (0 + ii).blt l = true,
 (ii.blt n && decide (0 ≤ Int.ofNat ii)) = true,
 decide (Int.ofNat ii < Int.ofNat n) = true]) := by kernel_rfl
theorem rman_5 (n l : Nat) (r : Bool) (g : Nat → Nat → AV) (sl ge : Int) (mk : Bool) (b ep er : Int) (ew : Int) (ii : Nat) : roundB EM0 2000 rmaL ((rmaU n l r g sl ge mk b ep er ew).hp) [] (rmaT n l r g sl ge mk b ep er ew ii) [Hint.b true, Hint.b false, Hint.b false, Hint.b false] (rmaT n l r g sl ge mk b ep er ew (ii + 1)) =
 some (Ex.norm, [(0 : Nat) = 0,
 (0 : Nat) = 0,
 (0 : Nat) = 0,
 (0 : Nat) = 0,
 IntKind.i64.wrap (Int.ofNat ii + 1) = Int.ofNat (ii + 1),
 (0 : Nat) = 0,
 n = n,
 (none : Option Nat) = none,
 ew = ew,
 sl = sl,
 ge = ge,
 mk = mk,
 b = b,
 ep = ep,
 er = er,
 r = r,
 l ≤ l,
 g = g ∧ plainSh tSh = true ∨ ∀ (i : Nat), i < l → rowOb tSh 0 (g i) (g i),
 decide (IntKind.u64.wrap (avInt (g (0 + ii) 4) - 1) ≤ er) = false,
 (avInt (g (0 + ii) 5) == 0) = false,
 (avInt (g (0 + ii) 4) == 0) = false,
 (0 + ii).blt l = true,
 (ii.blt n && decide (0 ≤ Int.ofNat ii)) = true,
 decide (Int.ofNat ii < Int.ofNat n) = true]) := by kernel_rfl
theorem rman_6 (n l : Nat) (r : Bool) (g : Nat → Nat → AV) (sl ge : Int) (mk : Bool) (b ep er : Int) (ew : Int) (ii : Nat) : roundB EM0 2000 rmaL ((rmaU n l r g sl ge mk b ep er ew).hp) [] (rmaT n l r g sl ge mk b ep er ew ii) [Hint.b false] (rmaS n l r g sl ge mk b ep er ew) =
 some (Ex.exit 0, [(0 : Nat) = 0,
 n = n,
 (none : Option Nat) = none,
 ew = ew,
 sl = sl,
 ge = ge,
 mk = mk,
 b = b,
 ep = ep,
 er = er,
 r = r,
 l ≤ l,
 g = g ∧ plainSh tSh = true ∨ ∀ (i : Nat), i < l → rowOb tSh 0 (g i) (g i),
 decide (Int.ofNat ii < Int.ofNat n) = false]) := by kernel_rfl
theorem rmai_1 (n l : Nat) (r : Bool) (g : Nat → Nat → AV) (sl ge : Int) (mk : Bool) (b ep er : Int) (ew : Int) : castSt ((rmaU n l r g sl ge mk b ep er ew).hp) [] (rmaU n l r g sl ge mk b ep er ew) (rmaT n l r g sl ge mk b ep er ew 0) =
 some ([(0 : Nat) = 0,
 (0 : Nat) = 0,
 (0 : Nat) = 0,
 (0 : Nat) = 0,
 (0 : Int) = 0,
 (0 : Nat) = 0,
 n = n,
 (none : Option Nat) = none,
 ew = ew,
 sl = sl,
 ge = ge,
 mk = mk,
 b = b,
 ep = ep,
 er = er,
 r = r,
 l ≤ l,
 g = g ∧ plainSh tSh = true ∨ ∀ (i : Nat), i < l → rowOb tSh 0 (g i) (g i)]) := by kernel_rfl
theorem rmacf_1 (n l : Nat) (r : Bool) (g : Nat → Nat → AV) (sl ge : Int) (mk : Bool) (b ep er : Int) (ew : Int) (k : Nat) : callB EM0 2000 35 [AV.agg [AV.sym IntKind.i64 sl, AV.sym IntKind.u32 ge, AV.symb mk, AV.sym IntKind.u64 b, AV.sym IntKind.u64 ep, AV.sym IntKind.u64 er], AV.agg [AV.ss 10 1 0 n none, AV.sym IntKind.u64 ew]] (rmaH n l r g sl ge mk b ep er ew) (rmaR n l r g sl ge mk b ep er ew) [] [Hint.lp [2, 3, 5] Ex.ret (rmaQ n l r g sl ge mk b ep er ew k).tmps (rmaE n l r g sl ge mk b ep er ew) 4 []] =
 some ([false = !srchB (rmaP n l r g sl ge mk b ep er ew) n,
 r = r,
 l ≤ l,
 g = g ∧ plainSh tSh = true ∨ ∀ (i : Nat), i < l → rowOb tSh 0 (g i) (g i),
 rmaLF n l r g sl ge mk b ep er ew k]) := by kernel_rfl
theorem rmacn_1 (n l : Nat) (r : Bool) (g : Nat → Nat → AV) (sl ge : Int) (mk : Bool) (b ep er : Int) (ew : Int) : callB EM0 2000 35 [AV.agg [AV.sym IntKind.i64 sl, AV.sym IntKind.u32 ge, AV.symb mk, AV.sym IntKind.u64 b, AV.sym IntKind.u64 ep, AV.sym IntKind.u64 er], AV.agg [AV.ss 10 1 0 n none, AV.sym IntKind.u64 ew]] (rmaH n l r g sl ge mk b ep er ew) (rmaR n l r g sl ge mk b ep er ew) [] [Hint.lp [2, 3, 5] (Ex.exit 0) (rmaS n l r g sl ge mk b ep er ew).tmps (rmaE n l r g sl ge mk b ep er ew) 4 []] =
 some ([true = !srchB (rmaP n l r g sl ge mk b ep er ew) n,
 r = r,
 l ≤ l,
 g = g ∧ plainSh tSh = true ∨ ∀ (i : Nat), i < l → rowOb tSh 0 (g i) (g i),
 rmaLN n l r g sl ge mk b ep er ew]) := by kernel_rfl
theorem rma_lpf (n l : Nat) (r : Bool) (g : Nat → Nat → AV) (sl ge : Int) (mk : Bool) (b ep er : Int) (ew : Int) (hl : n ≤ l) (hm : n ≤ 1000000) (k : Nat) (hk : k < n) (qk2 : rmaP n l r g sl ge mk b ep er ew k = true) (qk3 : ∀ i, i < k → rmaP n l r g sl ge mk b ep er ew i = false) : rmaLF n l r g sl ge mk b ep er ew k := by
  refine loop_rule EM0_ok (I := Nat) (fun i => rmaT n l r g sl ge mk b ep er ew i) (fun i => k - i) (fun i => i ≤ k) ?_ (fun ii hi => ?_)
  ·
    refine ⟨0, [], _, Nat.zero_le _, rmai_1 .., (ob_cons rfl (ob_cons rfl (ob_cons rfl (ob_cons rfl (ob_cons rfl (ob_cons rfl (ob_cons rfl (ob_cons rfl (ob_cons rfl (ob_cons rfl (ob_cons rfl (ob_cons rfl (ob_cons rfl (ob_cons rfl (ob_cons rfl (ob_cons rfl (ob_cons (Nat.le_refl _) (ob_cons (.inl ⟨rfl, rfl⟩) ob_nil))))))))))))))))))⟩
  cases h1 : (avInt (g (0 + ii) 4) == 0) with
  | true =>
    have hpp : rmaP n l r g sl ge mk b ep er ew ii = false := by (unfold rmaP; (try rw [h1]); first | done | rfl | (simp; done) | (simp_all; done) | (simp_all [and2]; done))
    have hne : ii ≠ k := fun e => by (subst e; rw [qk2] at hpp; cases hpp)
    refine round_norm (s0 := rmaU n l r g sl ge mk b ep er ew) (ii + 1) (rmaf_1 ..) (ob_cons rfl (ob_cons rfl (ob_cons rfl (ob_cons rfl (ob_cons ?_ (ob_cons rfl (ob_cons rfl (ob_cons rfl (ob_cons rfl (ob_cons rfl (ob_cons rfl (ob_cons rfl (ob_cons rfl (ob_cons rfl (ob_cons rfl (ob_cons rfl (ob_cons (Nat.le_refl _) (ob_cons (.inl ⟨rfl, rfl⟩) (ob_cons h1 (ob_cons ?_ (ob_cons ?_ (ob_cons ?_ ob_nil)))))))))))))))))))))) (by show ii + 1 ≤ k; omega) (by show k - (ii + 1) < k - ii; omega)
    ·
      first | exact wrap_nat64 _ (by simp; omega) (by simp; omega) | (simp; omega) | (simp [srchB_at hk qk2 qk3]; done) | (simp [srchB_no qno]; done)
    ·
      first | (apply Nat.ble_eq_true_of_le; omega) | (simp [Nat.blt_eq]; omega) | (simp; omega) | (simp [srchB_at hk qk2 qk3]; done) | (simp [srchB_no qno]; done)
    ·
      first | (apply Nat.ble_eq_true_of_le; omega) | (simp [Nat.blt_eq]; omega) | (simp; omega) | (simp [srchB_at hk qk2 qk3]; done) | (simp [srchB_no qno]; done)
    ·
      first | (apply Nat.ble_eq_true_of_le; omega) | (simp [Nat.blt_eq]; omega) | (simp; omega) | (simp [srchB_at hk qk2 qk3]; done) | (simp [srchB_no qno]; done)
  | false =>
    cases h2 : (avInt (g (0 + ii) 5) == 0) with
    | true =>
      have hpp : rmaP n l r g sl ge mk b ep er ew ii = false := by (unfold rmaP; (try rw [h1]); (try rw [h2]); first | done | rfl | (simp; done) | (simp_all; done) | (simp_all [and2]; done))
      have hne : ii ≠ k := fun e => by (subst e; rw [qk2] at hpp; cases hpp)
      refine round_norm (s0 := rmaU n l r g sl ge mk b ep er ew) (ii + 1) (rmaf_2 ..) (ob_cons rfl (ob_cons rfl (ob_cons rfl (ob_cons rfl (ob_cons ?_ (ob_cons rfl (ob_cons rfl (ob_cons rfl (ob_cons rfl (ob_cons rfl (ob_cons rfl (ob_cons rfl (ob_cons rfl (ob_cons rfl (ob_cons rfl (ob_cons rfl (ob_cons (Nat.le_refl _) (ob_cons (.inl ⟨rfl, rfl⟩) (ob_cons h2 (ob_cons h1 (ob_cons ?_ (ob_cons ?_ (ob_cons ?_ ob_nil))))))))))))))))))))))) (by show ii + 1 ≤ k; omega) (by show k - (ii + 1) < k - ii; omega)
      ·
        first | exact wrap_nat64 _ (by simp; omega) (by simp; omega) | (simp; omega) | (simp [srchB_at hk qk2 qk3]; done) | (simp [srchB_no qno]; done)
      ·
        first | (apply Nat.ble_eq_true_of_le; omega) | (simp [Nat.blt_eq]; omega) | (simp; omega) | (simp [srchB_at hk qk2 qk3]; done) | (simp [srchB_no qno]; done)
      ·
        first | (apply Nat.ble_eq_true_of_le; omega) | (simp [Nat.blt_eq]; omega) | (simp; omega) | (simp [srchB_at hk qk2 qk3]; done) | (simp [srchB_no qno]; done)
      ·
        first | (apply Nat.ble_eq_true_of_le; omega) | (simp [Nat.blt_eq]; omega) | (simp; omega) | (simp [srchB_at hk qk2 qk3]; done) | (simp [srchB_no qno]; done)
    | false =>
      cases h3 : (decide (IntKind.u64.wrap (avInt (g (0 + ii) 4) - 1) ≤ er)) with
      | true =>
        have g3 := of_decide_eq_true h3
        try simp only [Int.ofNat_eq_natCast, ge_iff_le, gt_iff_lt, Int.not_lt, Int.not_le] at g3
        cases h4 : (decide (IntKind.u64.wrap (avInt (g (0 + ii) 5) - 1) ≥ b)) with
        | true =>
          have g4 := of_decide_eq_true h4
          try simp only [Int.ofNat_eq_natCast, ge_iff_le, gt_iff_lt, Int.not_lt, Int.not_le] at g4
          have hpp : rmaP n l r g sl ge mk b ep er ew ii = true := by (unfold rmaP; (try rw [h1]); (try rw [h2]); (try rw [h3]); (try rw [h4]); first | done | rfl | (simp; done) | (simp_all; done) | (simp_all [and2]; done))
          have hke : ii = k := by (rcases Nat.lt_or_ge ii k with q | q <;> first | (rw [qk3 ii q] at hpp; cases hpp) | omega)
          subst hke
          refine round_exit (s0 := rmaU n l r g sl ge mk b ep er ew) (rmaf_3 ..) (by simp) (ob_cons rfl (ob_cons rfl (ob_cons rfl (ob_cons rfl (ob_cons rfl (ob_cons rfl (ob_cons rfl (ob_cons rfl (ob_cons rfl (ob_cons rfl (ob_cons rfl (ob_cons (Nat.le_refl _) (ob_cons (.inl ⟨rfl, rfl⟩) (ob_cons h4 (ob_cons h3 (ob_cons h2 (ob_cons h1 (ob_cons ?_ (ob_cons ?_ (ob_cons ?_ ob_nil))))))))))))))))))))
          ·
            first | (apply Nat.ble_eq_true_of_le; omega) | (simp [Nat.blt_eq]; omega) | (simp; omega) | (simp [srchB_at hk qk2 qk3]; done) | (simp [srchB_no qno]; done)
          ·
            first | (apply Nat.ble_eq_true_of_le; omega) | (simp [Nat.blt_eq]; omega) | (simp; omega) | (simp [srchB_at hk qk2 qk3]; done) | (simp [srchB_no qno]; done)
          ·
            first | (apply Nat.ble_eq_true_of_le; omega) | (simp [Nat.blt_eq]; omega) | (simp; omega) | (simp [srchB_at hk qk2 qk3]; done) | (simp [srchB_no qno]; done)
        | false =>
          have g4 := of_decide_eq_false h4
          try simp only [Int.ofNat_eq_natCast, ge_iff_le, gt_iff_lt, Int.not_lt, Int.not_le] at g4
          have hpp : rmaP n l r g sl ge mk b ep er ew ii = false := by (unfold rmaP; (try rw [h1]); (try rw [h2]); (try rw [h3]); (try rw [h4]); first | done | rfl | (simp; done) | (simp_all; done) | (simp_all [and2]; done))
          have hne : ii ≠ k := fun e => by (subst e; rw [qk2] at hpp; cases hpp)
          refine round_norm (s0 := rmaU n l r g sl ge mk b ep er ew) (ii + 1) (rmaf_4 ..) (ob_cons rfl (ob_cons rfl (ob_cons rfl (ob_cons rfl (ob_cons ?_ (ob_cons rfl (ob_cons rfl (ob_cons rfl (ob_cons rfl (ob_cons rfl (ob_cons rfl (ob_cons rfl (ob_cons rfl (ob_cons rfl (ob_cons rfl (ob_cons rfl (ob_cons (Nat.le_refl _) (ob_cons (.inl ⟨rfl, rfl⟩) (ob_cons h4 (ob_cons h3 (ob_cons h2 (ob_cons h1 (ob_cons ?_ (ob_cons ?_ (ob_cons ?_ ob_nil))))))))))))))))))))))))) (by show ii + 1 ≤ k; omega) (by show k - (ii + 1) < k - ii; omega)
          ·
            first | exact wrap_nat64 _ (by simp; omega) (by simp; omega) | (simp; omega) | (simp [srchB_at hk qk2 qk3]; done) | (simp [srchB_no qno]; done)
          ·
            first | (apply Nat.ble_eq_true_of_le; omega) | (simp [Nat.blt_eq]; omega) | (simp; omega) | (simp [srchB_at hk qk2 qk3]; done) | (simp [srchB_no qno]; done)
          ·
            first | (apply Nat.ble_eq_true_of_le; omega) | (simp [Nat.blt_eq]; omega) | (simp; omega) | (simp [srchB_at hk qk2 qk3]; done) | (simp [srchB_no qno]; done)
          ·
            first | (apply Nat.ble_eq_true_of_le; omega) | (simp [Nat.blt_eq]; omega) | (simp; omega) | (simp [srchB_at hk qk2 qk3]; done) | (simp [srchB_no qno]; done)
      | false =>
        have g3 := of_decide_eq_false h3
        try simp only [Int.ofNat_eq_natCast, ge_iff_le, gt_iff_lt, Int.not_lt, Int.not_le] at g3
        have hpp : rmaP n l r g sl ge mk b ep er ew ii = false := by (unfold rmaP; (try rw [h1]); (try rw [h2]); (try rw [h3]); first | done | rfl | (simp; done) | (simp_all; done) | (simp_all [and2]; done))
        have hne : ii ≠ k := fun e => by (subst e; rw [qk2] at hpp; cases hpp)
        refine round_norm (s0 := rmaU n l r g sl ge mk b ep er ew) (ii + 1) (rmaf_5 ..) (ob_cons rfl (ob_cons rfl (ob_cons rfl (ob_cons rfl (ob_cons ?_ (ob_cons rfl (ob_cons rfl (ob_cons rfl (ob_cons rfl (ob_cons rfl (ob_cons rfl (ob_cons rfl (ob_cons rfl (ob_cons rfl (ob_cons rfl (ob_cons rfl (ob_cons (Nat.le_refl _) (ob_cons (.inl ⟨rfl, rfl⟩) (ob_cons h3 (ob_cons h2 (ob_cons h1 (ob_cons ?_ (ob_cons ?_ (ob_cons ?_ ob_nil)))))))))))))))))))))))) (by show ii + 1 ≤ k; omega) (by show k - (ii + 1) < k - ii; omega)
        ·
          first | exact wrap_nat64 _ (by simp; omega) (by simp; omega) | (simp; omega) | (simp [srchB_at hk qk2 qk3]; done) | (simp [srchB_no qno]; done)
        ·
          first | (apply Nat.ble_eq_true_of_le; omega) | (simp [Nat.blt_eq]; omega) | (simp; omega) | (simp [srchB_at hk qk2 qk3]; done) | (simp [srchB_no qno]; done)
        ·
          first | (apply Nat.ble_eq_true_of_le; omega) | (simp [Nat.blt_eq]; omega) | (simp; omega) | (simp [srchB_at hk qk2 qk3]; done) | (simp [srchB_no qno]; done)
        ·
          first | (apply Nat.ble_eq_true_of_le; omega) | (simp [Nat.blt_eq]; omega) | (simp; omega) | (simp [srchB_at hk qk2 qk3]; done) | (simp [srchB_no qno]; done)
theorem rma_lpn (n l : Nat) (r : Bool) (g : Nat → Nat → AV) (sl ge : Int) (mk : Bool) (b ep er : Int) (ew : Int) (hl : n ≤ l) (hm : n ≤ 1000000) (qno : ∀ i, i < n → rmaP n l r g sl ge mk b ep er ew i = false) : rmaLN n l r g sl ge mk b ep er ew := by
  refine loop_rule EM0_ok (I := Nat) (fun i => rmaT n l r g sl ge mk b ep er ew i) (fun i => n - i) (fun i => i ≤ n) ?_ (fun ii hi => ?_)
  ·
    refine ⟨0, [], _, Nat.zero_le _, rmai_1 .., (ob_cons rfl (ob_cons rfl (ob_cons rfl (ob_cons rfl (ob_cons rfl (ob_cons rfl (ob_cons rfl (ob_cons rfl (ob_cons rfl (ob_cons rfl (ob_cons rfl (ob_cons rfl (ob_cons rfl (ob_cons rfl (ob_cons rfl (ob_cons rfl (ob_cons (Nat.le_refl _) (ob_cons (.inl ⟨rfl, rfl⟩) ob_nil))))))))))))))))))⟩
  cases h1 : (decide (Int.ofNat ii < Int.ofNat n)) with
  | true =>
    have g1 := of_decide_eq_true h1
    try simp only [Int.ofNat_eq_natCast, ge_iff_le, gt_iff_lt, Int.not_lt, Int.not_le] at g1
    cases h2 : (avInt (g (0 + ii) 4) == 0) with
    | true =>
      refine round_norm (s0 := rmaU n l r g sl ge mk b ep er ew) (ii + 1) (rman_1 ..) (ob_cons rfl (ob_cons rfl (ob_cons rfl (ob_cons rfl (ob_cons ?_ (ob_cons rfl (ob_cons rfl (ob_cons rfl (ob_cons rfl (ob_cons rfl (ob_cons rfl (ob_cons rfl (ob_cons rfl (ob_cons rfl (ob_cons rfl (ob_cons rfl (ob_cons (Nat.le_refl _) (ob_cons (.inl ⟨rfl, rfl⟩) (ob_cons h2 (ob_cons ?_ (ob_cons ?_ (ob_cons h1 ob_nil)))))))))))))))))))))) (by show ii + 1 ≤ n; omega) (by show n - (ii + 1) < n - ii; omega)
      ·
        first | exact wrap_nat64 _ (by simp; omega) (by simp; omega) | (simp; omega) | (have q := qno ii (by omega); unfold rmaP at q; (try simp only [h1, h2] at q); (try simp [and2] at q); (try simp); first | exact q | omega | (simp_all; done)) | (simp [srchB_at hk qk2 qk3]; done) | (simp [srchB_no qno]; done)
      ·
        first | (apply Nat.ble_eq_true_of_le; omega) | (simp [Nat.blt_eq]; omega) | (simp; omega) | (have q := qno ii (by omega); unfold rmaP at q; (try simp only [h1, h2] at q); (try simp [and2] at q); (try simp); first | exact q | omega | (simp_all; done)) | (simp [srchB_at hk qk2 qk3]; done) | (simp [srchB_no qno]; done)
      ·
        first | (apply Nat.ble_eq_true_of_le; omega) | (simp [Nat.blt_eq]; omega) | (simp; omega) | (have q := qno ii (by omega); unfold rmaP at q; (try simp only [h1, h2] at q); (try simp [and2] at q); (try simp); first | exact q | omega | (simp_all; done)) | (simp [srchB_at hk qk2 qk3]; done) | (simp [srchB_no qno]; done)
    | false =>
      cases h3 : (avInt (g (0 + ii) 5) == 0) with
      | true =>
        refine round_norm (s0 := rmaU n l r g sl ge mk b ep er ew) (ii + 1) (rman_2 ..) (ob_cons rfl (ob_cons rfl (ob_cons rfl (ob_cons rfl (ob_cons ?_ (ob_cons rfl (ob_cons rfl (ob_cons rfl (ob_cons rfl (ob_cons rfl (ob_cons rfl (ob_cons rfl (ob_cons rfl (ob_cons rfl (ob_cons rfl (ob_cons rfl (ob_cons (Nat.le_refl _) (ob_cons (.inl ⟨rfl, rfl⟩) (ob_cons h3 (ob_cons h2 (ob_cons ?_ (ob_cons ?_ (ob_cons h1 ob_nil))))))))))))))))))))))) (by show ii + 1 ≤ n; omega) (by show n - (ii + 1) < n - ii; omega)
        ·
          first | exact wrap_nat64 _ (by simp; omega) (by simp; omega) | (simp; omega) | (have q := qno ii (by omega); unfold rmaP at q; (try simp only [h1, h2, h3] at q); (try simp [and2] at q); (try simp); first | exact q | omega | (simp_all; done)) | (simp [srchB_at hk qk2 qk3]; done) | (simp [srchB_no qno]; done)
        ·
          first | (apply Nat.ble_eq_true_of_le; omega) | (simp [Nat.blt_eq]; omega) | (simp; omega) | (have q := qno ii (by omega); unfold rmaP at q; (try simp only [h1, h2, h3] at q); (try simp [and2] at q); (try simp); first | exact q | omega | (simp_all; done)) | (simp [srchB_at hk qk2 qk3]; done) | (simp [srchB_no qno]; done)
        ·
          first | (apply Nat.ble_eq_true_of_le; omega) | (simp [Nat.blt_eq]; omega) | (simp; omega) | (have q := qno ii (by omega); unfold rmaP at q; (try simp only [h1, h2, h3] at q); (try simp [and2] at q); (try simp); first | exact q | omega | (simp_all; done)) | (simp [srchB_at hk qk2 qk3]; done) | (simp [srchB_no qno]; done)
      | false =>
        cases h4 : (decide (IntKind.u64.wrap (avInt (g (0 + ii) 4) - 1) ≤ er)) with
        | true =>
          have g4 := of_decide_eq_true h4
          try simp only [Int.ofNat_eq_natCast, ge_iff_le, gt_iff_lt, Int.not_lt, Int.not_le] at g4
          refine round_norm (s0 := rmaU n l r g sl ge mk b ep er ew) (ii + 1) (rman_4 ..) (ob_cons rfl (ob_cons rfl (ob_cons rfl (ob_cons rfl (ob_cons ?_ (ob_cons rfl (ob_cons rfl (ob_cons rfl (ob_cons rfl (ob_cons rfl (ob_cons rfl (ob_cons rfl (ob_cons rfl (ob_cons rfl (ob_cons rfl (ob_cons rfl (ob_cons (Nat.le_refl _) (ob_cons (.inl ⟨rfl, rfl⟩) (ob_cons ?_ (ob_cons h4 (ob_cons h3 (ob_cons h2 (ob_cons ?_ (ob_cons ?_ (ob_cons h1 ob_nil))))))))))))))))))))))))) (by show ii + 1 ≤ n; omega) (by show n - (ii + 1) < n - ii; omega)
          ·
            first | exact wrap_nat64 _ (by simp; omega) (by simp; omega) | (simp; omega) | (have q := qno ii (by omega); unfold rmaP at q; (try simp only [h1, h2, h3, h4] at q); (try simp [and2] at q); (try simp); first | exact q | omega | (simp_all; done)) | (simp [srchB_at hk qk2 qk3]; done) | (simp [srchB_no qno]; done)
          ·
            first | (apply Nat.ble_eq_true_of_le; omega) | (simp [Nat.blt_eq]; omega) | (simp; omega) | (have q := qno ii (by omega); unfold rmaP at q; (try simp only [h1, h2, h3, h4] at q); (try simp [and2] at q); (try simp); first | exact q | omega | (simp_all; done)) | (simp [srchB_at hk qk2 qk3]; done) | (simp [srchB_no qno]; done)
          ·
            first | (apply Nat.ble_eq_true_of_le; omega) | (simp [Nat.blt_eq]; omega) | (simp; omega) | (have q := qno ii (by omega); unfold rmaP at q; (try simp only [h1, h2, h3, h4] at q); (try simp [and2] at q); (try simp); first | exact q | omega | (simp_all; done)) | (simp [srchB_at hk qk2 qk3]; done) | (simp [srchB_no qno]; done)
          ·
            first | (apply Nat.ble_eq_true_of_le; omega) | (simp [Nat.blt_eq]; omega) | (simp; omega) | (have q := qno ii (by omega); unfold rmaP at q; (try simp only [h1, h2, h3, h4] at q); (try simp [and2] at q); (try simp); first | exact q | omega | (simp_all; done)) | (simp [srchB_at hk qk2 qk3]; done) | (simp [srchB_no qno]; done)
        | false =>
          have g4 := of_decide_eq_false h4
          try simp only [Int.ofNat_eq_natCast, ge_iff_le, gt_iff_lt, Int.not_lt, Int.not_le] at g4
          refine round_norm (s0 := rmaU n l r g sl ge mk b ep er ew) (ii + 1) (rman_5 ..) (ob_cons rfl (ob_cons rfl (ob_cons rfl (ob_cons rfl (ob_cons ?_ (ob_cons rfl (ob_cons rfl (ob_cons rfl (ob_cons rfl (ob_cons rfl (ob_cons rfl (ob_cons rfl (ob_cons rfl (ob_cons rfl (ob_cons rfl (ob_cons rfl (ob_cons (Nat.le_refl _) (ob_cons (.inl ⟨rfl, rfl⟩) (ob_cons h4 (ob_cons h3 (ob_cons h2 (ob_cons ?_ (ob_cons ?_ (ob_cons h1 ob_nil)))))))))))))))))))))))) (by show ii + 1 ≤ n; omega) (by show n - (ii + 1) < n - ii; omega)
          ·
            first | exact wrap_nat64 _ (by simp; omega) (by simp; omega) | (simp; omega) | (have q := qno ii (by omega); unfold rmaP at q; (try simp only [h1, h2, h3, h4] at q); (try simp [and2] at q); (try simp); first | exact q | omega | (simp_all; done)) | (simp [srchB_at hk qk2 qk3]; done) | (simp [srchB_no qno]; done)
          ·
            first | (apply Nat.ble_eq_true_of_le; omega) | (simp [Nat.blt_eq]; omega) | (simp; omega) | (have q := qno ii (by omega); unfold rmaP at q; (try simp only [h1, h2, h3, h4] at q); (try simp [and2] at q); (try simp); first | exact q | omega | (simp_all; done)) | (simp [srchB_at hk qk2 qk3]; done) | (simp [srchB_no qno]; done)
          ·
            first | (apply Nat.ble_eq_true_of_le; omega) | (simp [Nat.blt_eq]; omega) | (simp; omega) | (have q := qno ii (by omega); unfold rmaP at q; (try simp only [h1, h2, h3, h4] at q); (try simp [and2] at q); (try simp); first | exact q | omega | (simp_all; done)) | (simp [srchB_at hk qk2 qk3]; done) | (simp [srchB_no qno]; done)
  | false =>
    have g1 := of_decide_eq_false h1
    try simp only [Int.ofNat_eq_natCast, ge_iff_le, gt_iff_lt, Int.not_lt, Int.not_le] at g1
    refine round_exit (s0 := rmaU n l r g sl ge mk b ep er ew) (rman_6 ..) (by simp) (ob_cons rfl (ob_cons rfl (ob_cons rfl (ob_cons rfl (ob_cons rfl (ob_cons rfl (ob_cons rfl (ob_cons rfl (ob_cons rfl (ob_cons rfl (ob_cons rfl (ob_cons (Nat.le_refl _) (ob_cons (.inl ⟨rfl, rfl⟩) (ob_cons h1 ob_nil))))))))))))))
theorem rma_loc (n l : Nat) (r : Bool) (g : Nat → Nat → AV) (sl ge : Int) (mk : Bool) (b ep er : Int) (ew : Int) : LocOk Try.prog 35 [.agg [.sym .i64 sl, .sym .u32 ge, .symb mk, .sym .u64 b, .sym .u64 ep, .sym .u64 er], .agg [.ss 10 1 0 n none, .sym .u64 ew]] (rmaH n l r g sl ge mk b ep er ew) (rmaR n l r g sl ge mk b ep er ew) := by
  refine loc_of_call EM0_ok (fun hp => ?_)
  have hl : n ≤ l := hp _ (List.mem_cons_self ..)
  have hm : n ≤ 1000000 := hp _ (List.mem_cons_of_mem _ (List.mem_cons_self ..))
  clear hp
  rcases first_true (rmaP n l r g sl ge mk b ep er ew) (n) with qno | ⟨k, hk, qk2, qk3⟩
  · have hln := rma_lpn n l r g sl ge mk b ep er ew hl hm qno
    refine ⟨2000, _, _, _, rmacn_1 .., (ob_cons ?_ (ob_cons rfl (ob_cons (Nat.le_refl _) (ob_cons (.inl ⟨rfl, rfl⟩) (ob_cons ?_ ob_nil)))))⟩
    ·
      first | rfl | exact hln | (simp only [srch_no qno, srchB_no qno]; done) | (rw [srch_no qno]; done) | (simp [srchB_at hk qk2 qk3]; done) | (simp [srchB_no qno]; done)
    ·
      first | trivial | exact hln | (simp only [srch_no qno, srchB_no qno]; done) | (rw [srch_no qno]; done) | (simp [srchB_at hk qk2 qk3]; done) | (simp [srchB_no qno]; done)
  · have hlf := rma_lpf n l r g sl ge mk b ep er ew hl hm k hk qk2 qk3
    refine ⟨2000, _, _, _, rmacf_1 n l r g sl ge mk b ep er ew k, (ob_cons ?_ (ob_cons rfl (ob_cons (Nat.le_refl _) (ob_cons (.inl ⟨rfl, rfl⟩) (ob_cons ?_ ob_nil)))))⟩
    ·
      first | rfl | exact hlf | (simp only [srch_at hk qk2 qk3, srchB_at hk qk2 qk3]; done) | (rw [srch_at hk qk2 qk3]; done) | (simp [srchB_at hk qk2 qk3]; done) | (simp [srchB_no qno]; done)
    ·
      first | trivial | exact hlf | (simp only [srch_at hk qk2 qk3, srchB_at hk qk2 qk3]; done) | (rw [srch_at hk qk2 qk3]; done) | (simp [srchB_at hk qk2 qk3]; done) | (simp [srchB_no qno]; done)
noncomputable def rmaSpec : LSpec := fun la lh => match la, lh with
  | [.agg [.sym .i64 sl, .sym .u32 ge, .symb mk, .sym .u64 b, .sym .u64 ep, .sym .u64 er], .agg [.ss z1 z2 z3 n none, .sym .u64 ew]], [(z4, .arr z5 z6 r l g)] =>
    match Nat.beq z1 10 && (Nat.beq z2 1 && (Nat.beq z3 0 && (Nat.beq z4 1 && (Nat.beq z5 10 && (shBeq z6 tSh))))) with
    | true => some (rmaR n l r g sl ge mk b ep er ew)
    | false => none
  | _, _ => none
theorem rmaSpec_ok (la : List AV) (lh : List (Nat × AO)) (R : LR) (h : rmaSpec la lh = some R) : LocOk Try.prog 35 la lh R := by
  unfold rmaSpec at h
  split at h
  · rename_i sl ge mk b ep er z1 z2 z3 n ew z4 z5 z6 r l g
    split at h
    · rename_i hb
      simp only [Bool.and_eq_true] at hb
      obtain ⟨e1, e2, e3, e4, e5, e6⟩ := hb
      have e1 := Nat.eq_of_beq_eq_true e1; subst e1
      have e2 := Nat.eq_of_beq_eq_true e2; subst e2
      have e3 := Nat.eq_of_beq_eq_true e3; subst e3
      have e4 := Nat.eq_of_beq_eq_true e4; subst e4
      have e5 := Nat.eq_of_beq_eq_true e5; subst e5
      have e6 := shBeq_eq e6; subst e6
      cases h
      exact rma_loc n l r g sl ge mk b ep er ew
    · cases h
  · cases h

end Go.Proofs.Ytmhjecenmgbpeaa
