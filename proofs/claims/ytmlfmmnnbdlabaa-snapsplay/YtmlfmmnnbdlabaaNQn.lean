/-
  SnapsPlay: the loop that spoils.
-/
import Derived.Test.YtmlfmmnnbdlabaaNQnDef
set_option linter.unusedSimpArgs false
set_option linter.unusedVariables false
namespace Go.Proofs.Ytmlfmmnnbdlabaa
open Go.Ev
theorem spa_1 (n : Nat) (g : Nat → Nat → AV) (m : Nat) (f : Nat → Nat → AV) (al : Nat) (b : Int) (K : Nat) (y : PS) (ii : Nat) : roundB EM0 4000 spL ((spU n g m f al b K y).hp) [] (spT n g m f al b K y ii) [Hint.b true] (spT n g m f al b K y (ii + 1)) =
 some (Ex.norm, [(0 : Nat) = 0,
 (0 : Nat) = 0,
 (0 : Nat) = 0,
 (0 : Nat) = 0,
 (0 : Nat) = 0,
 (0 : Nat) = 0,
 IntKind.i64.wrap (Int.ofNat ii + 1) = Int.ofNat (ii + 1),
 (0 : Nat) = 0,
 al - 0 = al - 0,
 some (al - 0) = some (al - 0),
 (0 : Int) = 0,
 false = false,
 al ≤ al,
 sp7 y.F (ii + 1) = upd (sp7 y.F ii) (0 + ii) 0 (ofVal (Value.int IntKind.u64 7)).cells ∧ plainSh tSh = true ∨ ∀ (i : Nat), i < al → rowOb tSh 0 (upd (sp7 y.F ii) (0 + ii) 0 (ofVal (Value.int IntKind.u64 7)).cells i) (sp7 y.F (ii + 1) i),
 (0 : Nat) = 0,
 rdN y.fl y.ta = rdN y.fl y.ta,
 (none : Option Nat) = none,
 b = b,
 y.fl = y.fl,
 false = false,
 rdN y.fl y.ta ≤ rdN y.fl y.ta,
 y.F = y.F ∧ plainSh tSh = true ∨ ∀ (i : Nat), i < rdN y.fl y.ta → rowOb tSh 0 (y.F i) (y.F i),
 (0 : Nat) = 0,
 al = al,
 some al = some al,
 (0 : Int) = 0,
 y.ta = y.ta,
 y.fl = y.fl,
 Int.ofNat al = Int.ofNat al,
 false = false,
 al ≤ al,
 y.F = y.F ∧ plainSh tSh = true ∨ ∀ (i : Nat), i < al → rowOb tSh 0 (y.F i) (y.F i),
 true = true,
 n ≤ n,
 wdF (bgW g) = wdF (bgW g) ∧ plainSh wSh = true ∨ ∀ (i : Nat), i < n → rowOb wSh 0 (wdF (bgW g) i) (wdF (bgW g) i),
 true = true,
 m ≤ m,
 f = f ∧ plainSh wSh = true ∨ ∀ (i : Nat), i < m → rowOb wSh 0 (f i) (f i),
 (0 + ii).blt al = true,
 (ii.blt (al - 0) && decide (0 ≤ Int.ofNat ii)) = true,
 decide (Int.ofNat ii < Int.ofNat (al - 0)) = true]) := by kernel_rfl
theorem spx_1 (n : Nat) (g : Nat → Nat → AV) (m : Nat) (f : Nat → Nat → AV) (al : Nat) (b : Int) (K : Nat) (y : PS) (ii : Nat) : roundB EM0 4000 spL ((spU n g m f al b K y).hp) [] (spT n g m f al b K y ii) [Hint.b false] (spX n g m f al b K y) =
 some (Ex.exit 2, [(0 : Nat) = 0,
 (0 : Nat) = 0,
 (0 : Nat) = 0,
 (0 : Nat) = 0,
 (0 : Nat) = 0,
 rdN y.fl y.ta = rdN y.fl y.ta,
 (none : Option Nat) = none,
 b = b,
 y.fl = y.fl,
 false = false,
 rdN y.fl y.ta ≤ rdN y.fl y.ta,
 y.F = y.F ∧ plainSh tSh = true ∨ ∀ (i : Nat), i < rdN y.fl y.ta → rowOb tSh 0 (y.F i) (y.F i),
 (0 : Nat) = 0,
 al = al,
 some al = some al,
 (0 : Int) = 0,
 y.ta = y.ta,
 y.fl = y.fl,
 Int.ofNat al = Int.ofNat al,
 false = false,
 al ≤ al,
 y.F = y.F ∧ plainSh tSh = true ∨ ∀ (i : Nat), i < al → rowOb tSh 0 (y.F i) (y.F i),
 true = true,
 n ≤ n,
 wdF (bgW g) = wdF (bgW g) ∧ plainSh wSh = true ∨ ∀ (i : Nat), i < n → rowOb wSh 0 (wdF (bgW g) i) (wdF (bgW g) i),
 true = true,
 m ≤ m,
 f = f ∧ plainSh wSh = true ∨ ∀ (i : Nat), i < m → rowOb wSh 0 (f i) (f i),
 decide (Int.ofNat ii < Int.ofNat (al - 0)) = false]) := by kernel_rfl
theorem spi_1 (n : Nat) (g : Nat → Nat → AV) (m : Nat) (f : Nat → Nat → AV) (al : Nat) (b : Int) (K : Nat) (y : PS) : castSt ((spU n g m f al b K y).hp) [] (spU n g m f al b K y) (spT n g m f al b K y 0) =
 some ([(0 : Nat) = 0,
 (0 : Nat) = 0,
 (0 : Nat) = 0,
 (0 : Nat) = 0,
 (0 : Nat) = 0,
 (0 : Nat) = 0,
 (0 : Int) = 0,
 (0 : Nat) = 0,
 al - 0 = al - 0,
 some (al - 0) = some (al - 0),
 (0 : Int) = 0,
 false = false,
 al ≤ al,
 (sp7 y.F 0 = fun i j => y.F (0 + i) j) ∧ plainSh tSh = true ∨ ∀ (i : Nat), i < al → rowOb tSh 0 (fun j => y.F (0 + i) j) (sp7 y.F 0 i),
 (0 : Nat) = 0,
 rdN y.fl y.ta = rdN y.fl y.ta,
 (none : Option Nat) = none,
 b = b,
 y.fl = y.fl,
 false = false,
 rdN y.fl y.ta ≤ rdN y.fl y.ta,
 y.F = y.F ∧ plainSh tSh = true ∨ ∀ (i : Nat), i < rdN y.fl y.ta → rowOb tSh 0 (y.F i) (y.F i),
 (0 : Nat) = 0,
 al = al,
 some al = some al,
 (0 : Int) = 0,
 y.ta = y.ta,
 y.fl = y.fl,
 Int.ofNat al = Int.ofNat al,
 false = false,
 al ≤ al,
 y.F = y.F ∧ plainSh tSh = true ∨ ∀ (i : Nat), i < al → rowOb tSh 0 (y.F i) (y.F i),
 true = true,
 n ≤ n,
 wdF (bgW g) = wdF (bgW g) ∧ plainSh wSh = true ∨ ∀ (i : Nat), i < n → rowOb wSh 0 (wdF (bgW g) i) (wdF (bgW g) i),
 true = true,
 m ≤ m,
 f = f ∧ plainSh wSh = true ∨ ∀ (i : Nat), i < m → rowOb wSh 0 (f i) (f i)]) := by kernel_rfl
theorem sp_lp (n : Nat) (g : Nat → Nat → AV) (m : Nat) (f : Nat → Nat → AV) (al : Nat) (b : Int) (K : Nat) (y : PS) (hal : al ≤ 16) (hs : ∀ i j, y.F i j = .sym .u64 (avInt (y.F i j))) : spLP n g m f al b K y := by
  refine loop_rule EM0_ok (I := Nat) (fun i => spT n g m f al b K y i) (fun i => al - i) (fun i => i ≤ al) ?_ (fun ii hi => ?_)
  ·
    refine ⟨0, [], _, Nat.zero_le _, spi_1 .., (ob_cons rfl (ob_cons rfl (ob_cons rfl (ob_cons rfl (ob_cons rfl (ob_cons rfl (ob_cons rfl (ob_cons rfl (ob_cons rfl (ob_cons rfl (ob_cons rfl (ob_cons rfl (ob_cons (Nat.le_refl _) (ob_cons ?_ (ob_cons rfl (ob_cons rfl (ob_cons rfl (ob_cons rfl (ob_cons rfl (ob_cons rfl (ob_cons (Nat.le_refl _) (ob_cons (.inl ⟨rfl, rfl⟩) (ob_cons rfl (ob_cons rfl (ob_cons rfl (ob_cons rfl (ob_cons rfl (ob_cons rfl (ob_cons rfl (ob_cons rfl (ob_cons (Nat.le_refl _) (ob_cons (.inl ⟨rfl, rfl⟩) (ob_cons rfl (ob_cons (Nat.le_refl _) (ob_cons (.inl ⟨rfl, rfl⟩) (ob_cons rfl (ob_cons (Nat.le_refl _) (ob_cons (.inl ⟨rfl, rfl⟩) ob_nil))))))))))))))))))))))))))))))))))))))⟩
    · exact .inl ⟨sp7_zero _, rfl⟩
  have hi : ii ≤ al := hi
  by_cases hin : ii < al
  · have h1 : decide (Int.ofNat ii < Int.ofNat (al - 0)) = true := decide_eq_true (by simp; omega)
    have h2 : IntKind.i64.wrap (Int.ofNat ii + 1) = Int.ofNat (ii + 1) := wrap_nat64 _ (by simp; omega) (by simp; omega)
    have h3 : (ii.blt (al - 0) && decide (0 ≤ Int.ofNat ii)) = true := by rw [Bool.and_eq_true]; exact ⟨by simpa [Nat.blt_eq] using hin, decide_eq_true (by simp)⟩
    have h4 : (0 + ii).blt al = true := by rw [Nat.zero_add]; simpa [Nat.blt_eq] using hin
    refine round_norm (s0 := spU n g m f al b K y) (T := fun i => spT n g m f al b K y i) (i := ii) (ii + 1) (spa_1 n g m f al b K y ii) (ob_cons rfl (ob_cons rfl (ob_cons rfl (ob_cons rfl (ob_cons rfl (ob_cons rfl (ob_cons ?_ (ob_cons rfl (ob_cons rfl (ob_cons rfl (ob_cons rfl (ob_cons rfl (ob_cons (Nat.le_refl _) (ob_cons ?_ (ob_cons rfl (ob_cons rfl (ob_cons rfl (ob_cons rfl (ob_cons rfl (ob_cons rfl (ob_cons (Nat.le_refl _) (ob_cons (.inl ⟨rfl, rfl⟩) (ob_cons rfl (ob_cons rfl (ob_cons rfl (ob_cons rfl (ob_cons rfl (ob_cons rfl (ob_cons rfl (ob_cons rfl (ob_cons (Nat.le_refl _) (ob_cons (.inl ⟨rfl, rfl⟩) (ob_cons rfl (ob_cons (Nat.le_refl _) (ob_cons (.inl ⟨rfl, rfl⟩) (ob_cons rfl (ob_cons (Nat.le_refl _) (ob_cons (.inl ⟨rfl, rfl⟩) (ob_cons ?_ (ob_cons ?_ (ob_cons ?_ ob_nil))))))))))))))))))))))))))))))))))))))))) (by show ii + 1 ≤ al; omega) (by show al - (ii + 1) < al - ii; omega)
    · with_reducible assumption
    · exact .inr (sp7_rows hs _ _)
    · with_reducible assumption
    · with_reducible assumption
    · with_reducible assumption
  · obtain rfl : al = ii := by omega
    have h1 : decide (Int.ofNat al < Int.ofNat (al - 0)) = false := decide_eq_false (by simp)
    refine round_exit (s0 := spU n g m f al b K y) (T := fun i => spT n g m f al b K y i) (i := al) (spx_1 n g m f al b K y al) (by simp) (ob_cons rfl (ob_cons rfl (ob_cons rfl (ob_cons rfl (ob_cons rfl (ob_cons rfl (ob_cons rfl (ob_cons rfl (ob_cons rfl (ob_cons rfl (ob_cons (Nat.le_refl _) (ob_cons (.inl ⟨rfl, rfl⟩) (ob_cons rfl (ob_cons rfl (ob_cons rfl (ob_cons rfl (ob_cons rfl (ob_cons rfl (ob_cons rfl (ob_cons rfl (ob_cons (Nat.le_refl _) (ob_cons (.inl ⟨rfl, rfl⟩) (ob_cons rfl (ob_cons (Nat.le_refl _) (ob_cons (.inl ⟨rfl, rfl⟩) (ob_cons rfl (ob_cons (Nat.le_refl _) (ob_cons (.inl ⟨rfl, rfl⟩) (ob_cons ?_ ob_nil)))))))))))))))))))))))))))))
    · with_reducible assumption

end Go.Proofs.Ytmlfmmnnbdlabaa
