/-
  Eras: May: the search.
-/
import Derived.Test.YtmlfmmnnbdlabaaNIxDef
set_option linter.unusedSimpArgs false
set_option linter.unusedVariables false
namespace Go.Proofs.Ytmlfmmnnbdlabaa
open Go.Ev
theorem ixff_1 (n l : Nat) (cc : Option Nat) (r : Bool) (g : Nat → Nat → AV) (sl ge : Int) (mk : Bool) (b ep er : Int) (ii : Nat) : roundB EM0 2000 ixfL ((ixfU n l cc r g sl ge mk b ep er).hp) [] (ixfT n l cc r g sl ge mk b ep er ii) [Hint.b true, Hint.b true, Hint.b true, Hint.b true, Hint.b true] (ixfQ n l cc r g sl ge mk b ep er ii) =
 some (Ex.ret, [Int.ofNat ii = Int.ofNat ii,
 r = r,
 l ≤ l,
 g = g ∧ plainSh tSh = true ∨ ∀ (i : Nat), i < l → rowOb tSh 0 (g i) (g i),
 sl = sl,
 ge = ge,
 mk = mk,
 b = b,
 ep = ep,
 er = er,
 decide (b ≤ IntKind.u64.wrap (avInt (g (0 + ii) 5) - 1)) = true,
 decide (IntKind.u64.wrap (avInt (g (0 + ii) 4) - 1) ≤ er) = true,
 (avInt (g (0 + ii) 5) != 0) = true,
 (avInt (g (0 + ii) 4) != 0) = true,
 (0 + ii).blt l = true,
 (ii.blt n && decide (0 ≤ Int.ofNat ii)) = true,
 decide (Int.ofNat ii < Int.ofNat n) = true]) := by kernel_rfl
theorem ixff_2 (n l : Nat) (cc : Option Nat) (r : Bool) (g : Nat → Nat → AV) (sl ge : Int) (mk : Bool) (b ep er : Int) (ii : Nat) : roundB EM0 2000 ixfL ((ixfU n l cc r g sl ge mk b ep er).hp) [] (ixfT n l cc r g sl ge mk b ep er ii) [Hint.b true, Hint.b true, Hint.b true, Hint.b true, Hint.b false] (ixfT n l cc r g sl ge mk b ep er (ii + 1)) =
 some (Ex.norm, [(0 : Nat) = 0,
 n = n,
 cc = cc,
 (0 : Nat) = 0,
 (0 : Nat) = 0,
 (0 : Nat) = 0,
 n = n,
 cc = cc,
 Int.ofNat n = Int.ofNat n,
 IntKind.i64.wrap (Int.ofNat ii + 1) = Int.ofNat (ii + 1),
 r = r,
 l ≤ l,
 g = g ∧ plainSh tSh = true ∨ ∀ (i : Nat), i < l → rowOb tSh 0 (g i) (g i),
 sl = sl,
 ge = ge,
 mk = mk,
 b = b,
 ep = ep,
 er = er,
 decide (b ≤ IntKind.u64.wrap (avInt (g (0 + ii) 5) - 1)) = false,
 decide (IntKind.u64.wrap (avInt (g (0 + ii) 4) - 1) ≤ er) = true,
 (avInt (g (0 + ii) 5) != 0) = true,
 (avInt (g (0 + ii) 4) != 0) = true,
 (0 + ii).blt l = true,
 (ii.blt n && decide (0 ≤ Int.ofNat ii)) = true,
 decide (Int.ofNat ii < Int.ofNat n) = true]) := by kernel_rfl
theorem ixff_3 (n l : Nat) (cc : Option Nat) (r : Bool) (g : Nat → Nat → AV) (sl ge : Int) (mk : Bool) (b ep er : Int) (ii : Nat) : roundB EM0 2000 ixfL ((ixfU n l cc r g sl ge mk b ep er).hp) [] (ixfT n l cc r g sl ge mk b ep er ii) [Hint.b true, Hint.b true, Hint.b true, Hint.b false] (ixfT n l cc r g sl ge mk b ep er (ii + 1)) =
 some (Ex.norm, [(0 : Nat) = 0,
 n = n,
 cc = cc,
 (0 : Nat) = 0,
 (0 : Nat) = 0,
 (0 : Nat) = 0,
 n = n,
 cc = cc,
 Int.ofNat n = Int.ofNat n,
 IntKind.i64.wrap (Int.ofNat ii + 1) = Int.ofNat (ii + 1),
 r = r,
 l ≤ l,
 g = g ∧ plainSh tSh = true ∨ ∀ (i : Nat), i < l → rowOb tSh 0 (g i) (g i),
 sl = sl,
 ge = ge,
 mk = mk,
 b = b,
 ep = ep,
 er = er,
 decide (IntKind.u64.wrap (avInt (g (0 + ii) 4) - 1) ≤ er) = false,
 (avInt (g (0 + ii) 5) != 0) = true,
 (avInt (g (0 + ii) 4) != 0) = true,
 (0 + ii).blt l = true,
 (ii.blt n && decide (0 ≤ Int.ofNat ii)) = true,
 decide (Int.ofNat ii < Int.ofNat n) = true]) := by kernel_rfl
theorem ixff_4 (n l : Nat) (cc : Option Nat) (r : Bool) (g : Nat → Nat → AV) (sl ge : Int) (mk : Bool) (b ep er : Int) (ii : Nat) : roundB EM0 2000 ixfL ((ixfU n l cc r g sl ge mk b ep er).hp) [] (ixfT n l cc r g sl ge mk b ep er ii) [Hint.b true, Hint.b true, Hint.b false] (ixfT n l cc r g sl ge mk b ep er (ii + 1)) =
 some (Ex.norm, [(0 : Nat) = 0,
 n = n,
 cc = cc,
 (0 : Nat) = 0,
 (0 : Nat) = 0,
 (0 : Nat) = 0,
 n = n,
 cc = cc,
 Int.ofNat n = Int.ofNat n,
 IntKind.i64.wrap (Int.ofNat ii + 1) = Int.ofNat (ii + 1),
 r = r,
 l ≤ l,
 g = g ∧ plainSh tSh = true ∨ ∀ (i : Nat), i < l → rowOb tSh 0 (g i) (g i),
 sl = sl,
 ge = ge,
 mk = mk,
 b = b,
 ep = ep,
 er = er,
 (avInt (g (0 + ii) 5) != 0) = false,
 (avInt (g (0 + ii) 4) != 0) = true,
 (0 + ii).blt l = true,
 (ii.blt n && decide (0 ≤ Int.ofNat ii)) = true,
 decide (Int.ofNat ii < Int.ofNat n) = true]) := by kernel_rfl
theorem ixff_5 (n l : Nat) (cc : Option Nat) (r : Bool) (g : Nat → Nat → AV) (sl ge : Int) (mk : Bool) (b ep er : Int) (ii : Nat) : roundB EM0 2000 ixfL ((ixfU n l cc r g sl ge mk b ep er).hp) [] (ixfT n l cc r g sl ge mk b ep er ii) [Hint.b true, Hint.b false] (ixfT n l cc r g sl ge mk b ep er (ii + 1)) =
 some (Ex.norm, [(0 : Nat) = 0,
 n = n,
 cc = cc,
 (0 : Nat) = 0,
 (0 : Nat) = 0,
 (0 : Nat) = 0,
 n = n,
 cc = cc,
 Int.ofNat n = Int.ofNat n,
 IntKind.i64.wrap (Int.ofNat ii + 1) = Int.ofNat (ii + 1),
 r = r,
 l ≤ l,
 g = g ∧ plainSh tSh = true ∨ ∀ (i : Nat), i < l → rowOb tSh 0 (g i) (g i),
 sl = sl,
 ge = ge,
 mk = mk,
 b = b,
 ep = ep,
 er = er,
 (avInt (g (0 + ii) 4) != 0) = false,
 (0 + ii).blt l = true,
 (ii.blt n && decide (0 ≤ Int.ofNat ii)) = true,
 decide (Int.ofNat ii < Int.ofNat n) = true]) := by kernel_rfl
theorem ixfn_2 (n l : Nat) (cc : Option Nat) (r : Bool) (g : Nat → Nat → AV) (sl ge : Int) (mk : Bool) (b ep er : Int) (ii : Nat) : roundB EM0 2000 ixfL ((ixfU n l cc r g sl ge mk b ep er).hp) [] (ixfT n l cc r g sl ge mk b ep er ii) [Hint.b true, Hint.b true, Hint.b true, Hint.b true, Hint.b false] (ixfT n l cc r g sl ge mk b ep er (ii + 1)) =
 some (Ex.norm, [(0 : Nat) = 0,
 n = n,
 cc = cc,
 (0 : Nat) = 0,
 (0 : Nat) = 0,
 (0 : Nat) = 0,
 n = n,
 cc = cc,
 Int.ofNat n = Int.ofNat n,
 IntKind.i64.wrap (Int.ofNat ii + 1) = Int.ofNat (ii + 1),
 r = r,
 l ≤ l,
 g = g ∧ plainSh tSh = true ∨ ∀ (i : Nat), i < l → rowOb tSh 0 (g i) (g i),
 sl = sl,
 ge = ge,
 mk = mk,
 b = b,
 ep = ep,
 er = er,
 decide (b ≤ IntKind.u64.wrap (avInt (g (0 + ii) 5) - 1)) = false,
 decide (IntKind.u64.wrap (avInt (g (0 + ii) 4) - 1) ≤ er) = true,
 (avInt (g (0 + ii) 5) != 0) = true,
 (avInt (g (0 + ii) 4) != 0) = true,
 (0 + ii).blt l = true,
 (ii.blt n && decide (0 ≤ Int.ofNat ii)) = true,
 decide (Int.ofNat ii < Int.ofNat n) = true]) := by kernel_rfl
theorem ixfn_3 (n l : Nat) (cc : Option Nat) (r : Bool) (g : Nat → Nat → AV) (sl ge : Int) (mk : Bool) (b ep er : Int) (ii : Nat) : roundB EM0 2000 ixfL ((ixfU n l cc r g sl ge mk b ep er).hp) [] (ixfT n l cc r g sl ge mk b ep er ii) [Hint.b true, Hint.b true, Hint.b true, Hint.b false] (ixfT n l cc r g sl ge mk b ep er (ii + 1)) =
 some (Ex.norm, [(0 : Nat) = 0,
 n = n,
 cc = cc,
 (0 : Nat) = 0,
 (0 : Nat) = 0,
 (0 : Nat) = 0,
 n = n,
 cc = cc,
 Int.ofNat n = Int.ofNat n,
 IntKind.i64.wrap (Int.ofNat ii + 1) = Int.ofNat (ii + 1),
 r = r,
 l ≤ l,
 g = g ∧ plainSh tSh = true ∨ ∀ (i : Nat), i < l → rowOb tSh 0 (g i) (g i),
 sl = sl,
 ge = ge,
 mk = mk,
 b = b,
 ep = ep,
 er = er,
 decide (IntKind.u64.wrap (avInt (g (0 + ii) 4) - 1) ≤ er) = false,
 (avInt (g (0 + ii) 5) != 0) = true,
 (avInt (g (0 + ii) 4) != 0) = true,
 (0 + ii).blt l = true,
 (ii.blt n && decide (0 ≤ Int.ofNat ii)) = true,
 decide (Int.ofNat ii < Int.ofNat n) = true]) := by kernel_rfl
theorem ixfn_4 (n l : Nat) (cc : Option Nat) (r : Bool) (g : Nat → Nat → AV) (sl ge : Int) (mk : Bool) (b ep er : Int) (ii : Nat) : roundB EM0 2000 ixfL ((ixfU n l cc r g sl ge mk b ep er).hp) [] (ixfT n l cc r g sl ge mk b ep er ii) [Hint.b true, Hint.b true, Hint.b false] (ixfT n l cc r g sl ge mk b ep er (ii + 1)) =
 some (Ex.norm, [(0 : Nat) = 0,
 n = n,
 cc = cc,
 (0 : Nat) = 0,
 (0 : Nat) = 0,
 (0 : Nat) = 0,
 n = n,
 cc = cc,
 Int.ofNat n = Int.ofNat n,
 IntKind.i64.wrap (Int.ofNat ii + 1) = Int.ofNat (ii + 1),
 r = r,
 l ≤ l,
 g = g ∧ plainSh tSh = true ∨ ∀ (i : Nat), i < l → rowOb tSh 0 (g i) (g i),
 sl = sl,
 ge = ge,
 mk = mk,
 b = b,
 ep = ep,
 er = er,
 (avInt (g (0 + ii) 5) != 0) = false,
 (avInt (g (0 + ii) 4) != 0) = true,
 (0 + ii).blt l = true,
 (ii.blt n && decide (0 ≤ Int.ofNat ii)) = true,
 decide (Int.ofNat ii < Int.ofNat n) = true]) := by kernel_rfl
theorem ixfn_5 (n l : Nat) (cc : Option Nat) (r : Bool) (g : Nat → Nat → AV) (sl ge : Int) (mk : Bool) (b ep er : Int) (ii : Nat) : roundB EM0 2000 ixfL ((ixfU n l cc r g sl ge mk b ep er).hp) [] (ixfT n l cc r g sl ge mk b ep er ii) [Hint.b true, Hint.b false] (ixfT n l cc r g sl ge mk b ep er (ii + 1)) =
 some (Ex.norm, [(0 : Nat) = 0,
 n = n,
 cc = cc,
 (0 : Nat) = 0,
 (0 : Nat) = 0,
 (0 : Nat) = 0,
 n = n,
 cc = cc,
 Int.ofNat n = Int.ofNat n,
 IntKind.i64.wrap (Int.ofNat ii + 1) = Int.ofNat (ii + 1),
 r = r,
 l ≤ l,
 g = g ∧ plainSh tSh = true ∨ ∀ (i : Nat), i < l → rowOb tSh 0 (g i) (g i),
 sl = sl,
 ge = ge,
 mk = mk,
 b = b,
 ep = ep,
 er = er,
 (avInt (g (0 + ii) 4) != 0) = false,
 (0 + ii).blt l = true,
 (ii.blt n && decide (0 ≤ Int.ofNat ii)) = true,
 decide (Int.ofNat ii < Int.ofNat n) = true]) := by kernel_rfl
theorem ixfn_6 (n l : Nat) (cc : Option Nat) (r : Bool) (g : Nat → Nat → AV) (sl ge : Int) (mk : Bool) (b ep er : Int) (ii : Nat) : roundB EM0 2000 ixfL ((ixfU n l cc r g sl ge mk b ep er).hp) [] (ixfT n l cc r g sl ge mk b ep er ii) [Hint.b false] (ixfS n l cc r g sl ge mk b ep er) =
 some (Ex.exit 0, [r = r,
 l ≤ l,
 g = g ∧ plainSh tSh = true ∨ ∀ (i : Nat), i < l → rowOb tSh 0 (g i) (g i),
 sl = sl,
 ge = ge,
 mk = mk,
 b = b,
 ep = ep,
 er = er,
 decide (Int.ofNat ii < Int.ofNat n) = false]) := by kernel_rfl
theorem ixfi_1 (n l : Nat) (cc : Option Nat) (r : Bool) (g : Nat → Nat → AV) (sl ge : Int) (mk : Bool) (b ep er : Int) : castSt ((ixfU n l cc r g sl ge mk b ep er).hp) [] (ixfU n l cc r g sl ge mk b ep er) (ixfT n l cc r g sl ge mk b ep er 0) =
 some ([(0 : Nat) = 0,
 n = n,
 cc = cc,
 (0 : Nat) = 0,
 (0 : Nat) = 0,
 (0 : Nat) = 0,
 n = n,
 cc = cc,
 Int.ofNat n = Int.ofNat n,
 (0 : Int) = 0,
 r = r,
 l ≤ l,
 g = g ∧ plainSh tSh = true ∨ ∀ (i : Nat), i < l → rowOb tSh 0 (g i) (g i),
 sl = sl,
 ge = ge,
 mk = mk,
 b = b,
 ep = ep,
 er = er]) := by kernel_rfl
theorem ixfcf_1 (n l : Nat) (cc : Option Nat) (r : Bool) (g : Nat → Nat → AV) (sl ge : Int) (mk : Bool) (b ep er : Int) (k : Nat) : callB EM0 2000 114 [AV.ss 10 1 0 n cc, AV.func (Fn.func 92) [] [AV.ptr 2 0 0]] (ixfH n l cc r g sl ge mk b ep er) (ixfR n l cc r g sl ge mk b ep er) [] [Hint.lp [0, 1, 6, 7, 8] Ex.ret (ixfQ n l cc r g sl ge mk b ep er k).tmps (ixfH n l cc r g sl ge mk b ep er) 3 []] =
 some ([Int.ofNat k = srch (ixfP n l cc r g sl ge mk b ep er) n (fun i => Int.ofNat i) (-1),
 r = r,
 l ≤ l,
 g = g ∧ plainSh tSh = true ∨ ∀ (i : Nat), i < l → rowOb tSh 0 (g i) (g i),
 sl = sl,
 ge = ge,
 mk = mk,
 b = b,
 ep = ep,
 er = er,
 ixfLF n l cc r g sl ge mk b ep er k]) := by kernel_rfl
theorem ixfcn_1 (n l : Nat) (cc : Option Nat) (r : Bool) (g : Nat → Nat → AV) (sl ge : Int) (mk : Bool) (b ep er : Int) : callB EM0 2000 114 [AV.ss 10 1 0 n cc, AV.func (Fn.func 92) [] [AV.ptr 2 0 0]] (ixfH n l cc r g sl ge mk b ep er) (ixfR n l cc r g sl ge mk b ep er) [] [Hint.lp [0, 1, 6, 7, 8] (Ex.exit 0) (ixfS n l cc r g sl ge mk b ep er).tmps (ixfH n l cc r g sl ge mk b ep er) 3 []] =
 some ([-1 = srch (ixfP n l cc r g sl ge mk b ep er) n (fun i => Int.ofNat i) (-1),
 r = r,
 l ≤ l,
 g = g ∧ plainSh tSh = true ∨ ∀ (i : Nat), i < l → rowOb tSh 0 (g i) (g i),
 sl = sl,
 ge = ge,
 mk = mk,
 b = b,
 ep = ep,
 er = er,
 ixfLN n l cc r g sl ge mk b ep er]) := by kernel_rfl
theorem ixf_lpf (n l : Nat) (cc : Option Nat) (r : Bool) (g : Nat → Nat → AV) (sl ge : Int) (mk : Bool) (b ep er : Int) (hl : n ≤ l) (hm : n ≤ 1000000) (k : Nat) (hk : k < n) (qk2 : ixfP n l cc r g sl ge mk b ep er k = true) (qk3 : ∀ i, i < k → ixfP n l cc r g sl ge mk b ep er i = false) : ixfLF n l cc r g sl ge mk b ep er k := by
  refine loop_rule EM0_ok (I := Nat) (fun i => ixfT n l cc r g sl ge mk b ep er i) (fun i => k - i) (fun i => i ≤ k) ?_ (fun ii hi => ?_)
  ·
    refine ⟨0, [], _, Nat.zero_le _, ixfi_1 .., (ob_cons rfl (ob_cons rfl (ob_cons rfl (ob_cons rfl (ob_cons rfl (ob_cons rfl (ob_cons rfl (ob_cons rfl (ob_cons rfl (ob_cons rfl (ob_cons rfl (ob_cons (Nat.le_refl _) (ob_cons (.inl ⟨rfl, rfl⟩) (ob_cons rfl (ob_cons rfl (ob_cons rfl (ob_cons rfl (ob_cons rfl (ob_cons rfl ob_nil)))))))))))))))))))⟩
  cases h1 : (avInt (g (0 + ii) 4) != 0) with
  | true =>
    cases h2 : (avInt (g (0 + ii) 5) != 0) with
    | true =>
      cases h3 : (decide (IntKind.u64.wrap (avInt (g (0 + ii) 4) - 1) ≤ er)) with
      | true =>
        have g3 := of_decide_eq_true h3
        try simp only [Int.ofNat_eq_natCast, ge_iff_le, gt_iff_lt, Int.not_lt, Int.not_le] at g3
        cases h4 : (decide (b ≤ IntKind.u64.wrap (avInt (g (0 + ii) 5) - 1))) with
        | true =>
          have g4 := of_decide_eq_true h4
          try simp only [Int.ofNat_eq_natCast, ge_iff_le, gt_iff_lt, Int.not_lt, Int.not_le] at g4
          have hpp : ixfP n l cc r g sl ge mk b ep er ii = true := by (unfold ixfP; (try rw [h1]); (try rw [h2]); (try rw [h3]); (try rw [h4]); first | done | rfl | (simp; done) | (simp_all; done) | (simp_all [and2]; done))
          have hke : ii = k := by (rcases Nat.lt_or_ge ii k with q | q <;> first | (rw [qk3 ii q] at hpp; cases hpp) | omega)
          subst hke
          refine round_exit (s0 := ixfU n l cc r g sl ge mk b ep er) (ixff_1 ..) (by simp) (ob_cons rfl (ob_cons rfl (ob_cons (Nat.le_refl _) (ob_cons (.inl ⟨rfl, rfl⟩) (ob_cons rfl (ob_cons rfl (ob_cons rfl (ob_cons rfl (ob_cons rfl (ob_cons rfl (ob_cons h4 (ob_cons h3 (ob_cons h2 (ob_cons h1 (ob_cons ?_ (ob_cons ?_ (ob_cons ?_ ob_nil)))))))))))))))))
          · (apply Nat.ble_eq_true_of_le; omega)
          · (simp [Nat.blt_eq]; omega)
          · (simp [Nat.blt_eq]; omega)
        | false =>
          have g4 := of_decide_eq_false h4
          try simp only [Int.ofNat_eq_natCast, ge_iff_le, gt_iff_lt, Int.not_lt, Int.not_le] at g4
          have hpp : ixfP n l cc r g sl ge mk b ep er ii = false := by (unfold ixfP; (try rw [h1]); (try rw [h2]); (try rw [h3]); (try rw [h4]); first | done | rfl | (simp; done) | (simp_all; done) | (simp_all [and2]; done))
          have hne : ii ≠ k := fun e => by (subst e; rw [qk2] at hpp; cases hpp)
          refine round_norm (s0 := ixfU n l cc r g sl ge mk b ep er) (ii + 1) (ixff_2 ..) (ob_cons rfl (ob_cons rfl (ob_cons rfl (ob_cons rfl (ob_cons rfl (ob_cons rfl (ob_cons rfl (ob_cons rfl (ob_cons rfl (ob_cons ?_ (ob_cons rfl (ob_cons (Nat.le_refl _) (ob_cons (.inl ⟨rfl, rfl⟩) (ob_cons rfl (ob_cons rfl (ob_cons rfl (ob_cons rfl (ob_cons rfl (ob_cons rfl (ob_cons h4 (ob_cons h3 (ob_cons h2 (ob_cons h1 (ob_cons ?_ (ob_cons ?_ (ob_cons ?_ ob_nil)))))))))))))))))))))))))) (by show ii + 1 ≤ k; omega) (by show k - (ii + 1) < k - ii; omega)
          · exact wrap_nat64 _ (by simp; omega) (by simp; omega)
          · (apply Nat.ble_eq_true_of_le; omega)
          · (simp [Nat.blt_eq]; omega)
          · (simp [Nat.blt_eq]; omega)
      | false =>
        have g3 := of_decide_eq_false h3
        try simp only [Int.ofNat_eq_natCast, ge_iff_le, gt_iff_lt, Int.not_lt, Int.not_le] at g3
        have hpp : ixfP n l cc r g sl ge mk b ep er ii = false := by (unfold ixfP; (try rw [h1]); (try rw [h2]); (try rw [h3]); first | done | rfl | (simp; done) | (simp_all; done) | (simp_all [and2]; done))
        have hne : ii ≠ k := fun e => by (subst e; rw [qk2] at hpp; cases hpp)
        refine round_norm (s0 := ixfU n l cc r g sl ge mk b ep er) (ii + 1) (ixff_3 ..) (ob_cons rfl (ob_cons rfl (ob_cons rfl (ob_cons rfl (ob_cons rfl (ob_cons rfl (ob_cons rfl (ob_cons rfl (ob_cons rfl (ob_cons ?_ (ob_cons rfl (ob_cons (Nat.le_refl _) (ob_cons (.inl ⟨rfl, rfl⟩) (ob_cons rfl (ob_cons rfl (ob_cons rfl (ob_cons rfl (ob_cons rfl (ob_cons rfl (ob_cons h3 (ob_cons h2 (ob_cons h1 (ob_cons ?_ (ob_cons ?_ (ob_cons ?_ ob_nil))))))))))))))))))))))))) (by show ii + 1 ≤ k; omega) (by show k - (ii + 1) < k - ii; omega)
        · exact wrap_nat64 _ (by simp; omega) (by simp; omega)
        · (apply Nat.ble_eq_true_of_le; omega)
        · (simp [Nat.blt_eq]; omega)
        · (simp [Nat.blt_eq]; omega)
    | false =>
      have hpp : ixfP n l cc r g sl ge mk b ep er ii = false := by (unfold ixfP; (try rw [h1]); (try rw [h2]); first | done | rfl | (simp; done) | (simp_all; done) | (simp_all [and2]; done))
      have hne : ii ≠ k := fun e => by (subst e; rw [qk2] at hpp; cases hpp)
      refine round_norm (s0 := ixfU n l cc r g sl ge mk b ep er) (ii + 1) (ixff_4 ..) (ob_cons rfl (ob_cons rfl (ob_cons rfl (ob_cons rfl (ob_cons rfl (ob_cons rfl (ob_cons rfl (ob_cons rfl (ob_cons rfl (ob_cons ?_ (ob_cons rfl (ob_cons (Nat.le_refl _) (ob_cons (.inl ⟨rfl, rfl⟩) (ob_cons rfl (ob_cons rfl (ob_cons rfl (ob_cons rfl (ob_cons rfl (ob_cons rfl (ob_cons h2 (ob_cons h1 (ob_cons ?_ (ob_cons ?_ (ob_cons ?_ ob_nil)))))))))))))))))))))))) (by show ii + 1 ≤ k; omega) (by show k - (ii + 1) < k - ii; omega)
      · exact wrap_nat64 _ (by simp; omega) (by simp; omega)
      · (apply Nat.ble_eq_true_of_le; omega)
      · (simp [Nat.blt_eq]; omega)
      · (simp [Nat.blt_eq]; omega)
  | false =>
    have hpp : ixfP n l cc r g sl ge mk b ep er ii = false := by (unfold ixfP; (try rw [h1]); first | done | rfl | (simp; done) | (simp_all; done) | (simp_all [and2]; done))
    have hne : ii ≠ k := fun e => by (subst e; rw [qk2] at hpp; cases hpp)
    refine round_norm (s0 := ixfU n l cc r g sl ge mk b ep er) (ii + 1) (ixff_5 ..) (ob_cons rfl (ob_cons rfl (ob_cons rfl (ob_cons rfl (ob_cons rfl (ob_cons rfl (ob_cons rfl (ob_cons rfl (ob_cons rfl (ob_cons ?_ (ob_cons rfl (ob_cons (Nat.le_refl _) (ob_cons (.inl ⟨rfl, rfl⟩) (ob_cons rfl (ob_cons rfl (ob_cons rfl (ob_cons rfl (ob_cons rfl (ob_cons rfl (ob_cons h1 (ob_cons ?_ (ob_cons ?_ (ob_cons ?_ ob_nil))))))))))))))))))))))) (by show ii + 1 ≤ k; omega) (by show k - (ii + 1) < k - ii; omega)
    · exact wrap_nat64 _ (by simp; omega) (by simp; omega)
    · (apply Nat.ble_eq_true_of_le; omega)
    · (simp [Nat.blt_eq]; omega)
    · (simp [Nat.blt_eq]; omega)
theorem ixf_lpn (n l : Nat) (cc : Option Nat) (r : Bool) (g : Nat → Nat → AV) (sl ge : Int) (mk : Bool) (b ep er : Int) (hl : n ≤ l) (hm : n ≤ 1000000) (qno : ∀ i, i < n → ixfP n l cc r g sl ge mk b ep er i = false) : ixfLN n l cc r g sl ge mk b ep er := by
  refine loop_rule EM0_ok (I := Nat) (fun i => ixfT n l cc r g sl ge mk b ep er i) (fun i => n - i) (fun i => i ≤ n) ?_ (fun ii hi => ?_)
  ·
    refine ⟨0, [], _, Nat.zero_le _, ixfi_1 .., (ob_cons rfl (ob_cons rfl (ob_cons rfl (ob_cons rfl (ob_cons rfl (ob_cons rfl (ob_cons rfl (ob_cons rfl (ob_cons rfl (ob_cons rfl (ob_cons rfl (ob_cons (Nat.le_refl _) (ob_cons (.inl ⟨rfl, rfl⟩) (ob_cons rfl (ob_cons rfl (ob_cons rfl (ob_cons rfl (ob_cons rfl (ob_cons rfl ob_nil)))))))))))))))))))⟩
  cases h1 : (decide (Int.ofNat ii < Int.ofNat n)) with
  | true =>
    have g1 := of_decide_eq_true h1
    try simp only [Int.ofNat_eq_natCast, ge_iff_le, gt_iff_lt, Int.not_lt, Int.not_le] at g1
    cases h2 : (avInt (g (0 + ii) 4) != 0) with
    | true =>
      cases h3 : (avInt (g (0 + ii) 5) != 0) with
      | true =>
        cases h4 : (decide (IntKind.u64.wrap (avInt (g (0 + ii) 4) - 1) ≤ er)) with
        | true =>
          have g4 := of_decide_eq_true h4
          try simp only [Int.ofNat_eq_natCast, ge_iff_le, gt_iff_lt, Int.not_lt, Int.not_le] at g4
          refine round_norm (s0 := ixfU n l cc r g sl ge mk b ep er) (ii + 1) (ixfn_2 ..) (ob_cons rfl (ob_cons rfl (ob_cons rfl (ob_cons rfl (ob_cons rfl (ob_cons rfl (ob_cons rfl (ob_cons rfl (ob_cons rfl (ob_cons ?_ (ob_cons rfl (ob_cons (Nat.le_refl _) (ob_cons (.inl ⟨rfl, rfl⟩) (ob_cons rfl (ob_cons rfl (ob_cons rfl (ob_cons rfl (ob_cons rfl (ob_cons rfl (ob_cons ?_ (ob_cons h4 (ob_cons h3 (ob_cons h2 (ob_cons ?_ (ob_cons ?_ (ob_cons h1 ob_nil)))))))))))))))))))))))))) (by show ii + 1 ≤ n; omega) (by show n - (ii + 1) < n - ii; omega)
          · exact wrap_nat64 _ (by simp; omega) (by simp; omega)
          · (have q := qno ii (by omega); unfold ixfP at q; (try simp only [h1, h2, h3, h4] at q); (try simp [and2] at q); (try simp); first | exact q | omega | (simp_all; done))
          · (apply Nat.ble_eq_true_of_le; omega)
          · (simp [Nat.blt_eq]; omega)
        | false =>
          have g4 := of_decide_eq_false h4
          try simp only [Int.ofNat_eq_natCast, ge_iff_le, gt_iff_lt, Int.not_lt, Int.not_le] at g4
          refine round_norm (s0 := ixfU n l cc r g sl ge mk b ep er) (ii + 1) (ixfn_3 ..) (ob_cons rfl (ob_cons rfl (ob_cons rfl (ob_cons rfl (ob_cons rfl (ob_cons rfl (ob_cons rfl (ob_cons rfl (ob_cons rfl (ob_cons ?_ (ob_cons rfl (ob_cons (Nat.le_refl _) (ob_cons (.inl ⟨rfl, rfl⟩) (ob_cons rfl (ob_cons rfl (ob_cons rfl (ob_cons rfl (ob_cons rfl (ob_cons rfl (ob_cons h4 (ob_cons h3 (ob_cons h2 (ob_cons ?_ (ob_cons ?_ (ob_cons h1 ob_nil))))))))))))))))))))))))) (by show ii + 1 ≤ n; omega) (by show n - (ii + 1) < n - ii; omega)
          · exact wrap_nat64 _ (by simp; omega) (by simp; omega)
          · (apply Nat.ble_eq_true_of_le; omega)
          · (simp [Nat.blt_eq]; omega)
      | false =>
        refine round_norm (s0 := ixfU n l cc r g sl ge mk b ep er) (ii + 1) (ixfn_4 ..) (ob_cons rfl (ob_cons rfl (ob_cons rfl (ob_cons rfl (ob_cons rfl (ob_cons rfl (ob_cons rfl (ob_cons rfl (ob_cons rfl (ob_cons ?_ (ob_cons rfl (ob_cons (Nat.le_refl _) (ob_cons (.inl ⟨rfl, rfl⟩) (ob_cons rfl (ob_cons rfl (ob_cons rfl (ob_cons rfl (ob_cons rfl (ob_cons rfl (ob_cons h3 (ob_cons h2 (ob_cons ?_ (ob_cons ?_ (ob_cons h1 ob_nil)))))))))))))))))))))))) (by show ii + 1 ≤ n; omega) (by show n - (ii + 1) < n - ii; omega)
        · exact wrap_nat64 _ (by simp; omega) (by simp; omega)
        · (apply Nat.ble_eq_true_of_le; omega)
        · (simp [Nat.blt_eq]; omega)
    | false =>
      refine round_norm (s0 := ixfU n l cc r g sl ge mk b ep er) (ii + 1) (ixfn_5 ..) (ob_cons rfl (ob_cons rfl (ob_cons rfl (ob_cons rfl (ob_cons rfl (ob_cons rfl (ob_cons rfl (ob_cons rfl (ob_cons rfl (ob_cons ?_ (ob_cons rfl (ob_cons (Nat.le_refl _) (ob_cons (.inl ⟨rfl, rfl⟩) (ob_cons rfl (ob_cons rfl (ob_cons rfl (ob_cons rfl (ob_cons rfl (ob_cons rfl (ob_cons h2 (ob_cons ?_ (ob_cons ?_ (ob_cons h1 ob_nil))))))))))))))))))))))) (by show ii + 1 ≤ n; omega) (by show n - (ii + 1) < n - ii; omega)
      · exact wrap_nat64 _ (by simp; omega) (by simp; omega)
      · (apply Nat.ble_eq_true_of_le; omega)
      · (simp [Nat.blt_eq]; omega)
  | false =>
    have g1 := of_decide_eq_false h1
    try simp only [Int.ofNat_eq_natCast, ge_iff_le, gt_iff_lt, Int.not_lt, Int.not_le] at g1
    refine round_exit (s0 := ixfU n l cc r g sl ge mk b ep er) (ixfn_6 ..) (by simp) (ob_cons rfl (ob_cons (Nat.le_refl _) (ob_cons (.inl ⟨rfl, rfl⟩) (ob_cons rfl (ob_cons rfl (ob_cons rfl (ob_cons rfl (ob_cons rfl (ob_cons rfl (ob_cons h1 ob_nil))))))))))
theorem ixf_loc (n l : Nat) (cc : Option Nat) (r : Bool) (g : Nat → Nat → AV) (sl ge : Int) (mk : Bool) (b ep er : Int) : LocOk Try.prog 114 [.ss 10 1 0 n cc, .func (.func 92) [] [.ptr 2 0 0]] (ixfH n l cc r g sl ge mk b ep er) (ixfR n l cc r g sl ge mk b ep er) := by
  refine loc_of_call EM0_ok (fun hp => ?_)
  have hl : n ≤ l := hp _ (List.mem_cons_self ..)
  have hm : n ≤ 1000000 := hp _ (List.mem_cons_of_mem _ (List.mem_cons_self ..))
  clear hp
  rcases first_true (ixfP n l cc r g sl ge mk b ep er) (n) with qno | ⟨k, hk, qk2, qk3⟩
  · have hln := ixf_lpn n l cc r g sl ge mk b ep er hl hm qno
    refine ⟨2000, _, _, _, ixfcn_1 .., (ob_cons ?_ (ob_cons rfl (ob_cons (Nat.le_refl _) (ob_cons (.inl ⟨rfl, rfl⟩) (ob_cons rfl (ob_cons rfl (ob_cons rfl (ob_cons rfl (ob_cons rfl (ob_cons rfl (ob_cons ?_ ob_nil)))))))))))⟩
    · (simp only [srch_no qno, srchB_no qno]; done)
    · trivial
  · have hlf := ixf_lpf n l cc r g sl ge mk b ep er hl hm k hk qk2 qk3
    refine ⟨2000, _, _, _, ixfcf_1 n l cc r g sl ge mk b ep er k, (ob_cons ?_ (ob_cons rfl (ob_cons (Nat.le_refl _) (ob_cons (.inl ⟨rfl, rfl⟩) (ob_cons rfl (ob_cons rfl (ob_cons rfl (ob_cons rfl (ob_cons rfl (ob_cons rfl (ob_cons ?_ ob_nil)))))))))))⟩
    · (simp only [srch_at hk qk2 qk3, srchB_at hk qk2 qk3]; done)
    · trivial
noncomputable def ixfSpec : LSpec := fun la lh => match la, lh with
  | [.ss z1 z2 z3 n cc, .func (.func z4) [] [.ptr z5 z6 z7]], [(z8, .arr z9 z10 r l g), (z11, .cells z12 [.sym .i64 sl, .sym .u32 ge, .symb mk, .sym .u64 b, .sym .u64 ep, .sym .u64 er])] =>
    match Nat.beq z1 10 && (Nat.beq z2 1 && (Nat.beq z3 0 && (Nat.beq z4 92 && (Nat.beq z5 2 && (Nat.beq z6 0 && (Nat.beq z7 0 && (Nat.beq z8 1 && (Nat.beq z9 10 && (shBeq z10 tSh && (Nat.beq z11 2 && (Nat.beq z12 6))))))))))) with
    | true => some (ixfR n l cc r g sl ge mk b ep er)
    | false => none
  | _, _ => none
theorem ixfSpec_ok (la : List AV) (lh : List (Nat × AO)) (R : LR) (h : ixfSpec la lh = some R) : LocOk Try.prog 114 la lh R := by
  unfold ixfSpec at h
  split at h
  · rename_i z1 z2 z3 n cc z4 z5 z6 z7 z8 z9 z10 r l g z11 z12 sl ge mk b ep er
    split at h
    · rename_i hb
      simp only [Bool.and_eq_true] at hb
      obtain ⟨e1, e2, e3, e4, e5, e6, e7, e8, e9, e10, e11, e12⟩ := hb
      have e1 := Nat.eq_of_beq_eq_true e1; subst e1
      have e2 := Nat.eq_of_beq_eq_true e2; subst e2
      have e3 := Nat.eq_of_beq_eq_true e3; subst e3
      have e4 := Nat.eq_of_beq_eq_true e4; subst e4
      have e5 := Nat.eq_of_beq_eq_true e5; subst e5
      have e6 := Nat.eq_of_beq_eq_true e6; subst e6
      have e7 := Nat.eq_of_beq_eq_true e7; subst e7
      have e8 := Nat.eq_of_beq_eq_true e8; subst e8
      have e9 := Nat.eq_of_beq_eq_true e9; subst e9
      have e10 := shBeq_eq e10; subst e10
      have e11 := Nat.eq_of_beq_eq_true e11; subst e11
      have e12 := Nat.eq_of_beq_eq_true e12; subst e12
      cases h
      exact ixf_loc n l cc r g sl ge mk b ep er
    · cases h
  · cases h

end Go.Proofs.Ytmlfmmnnbdlabaa
