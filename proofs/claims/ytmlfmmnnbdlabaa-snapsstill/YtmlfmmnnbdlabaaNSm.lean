/-
  SnapsStill: the loop over the threads.
-/
import Derived.Test.YtmlfmmnnbdlabaaNSmDef
set_option linter.unusedSimpArgs false
set_option linter.unusedVariables false
namespace Go.Proofs.Ytmlfmmnnbdlabaa
open Go.Ev
theorem sla_1 (n al : Nat) (g G : Nat → Nat → AV) (A : List (K3 × Int)) (z : Int) (X : MS) (ii : Nat) : roundB EM0 4000 slL ((slU n al g G A z X).hp) [] (slT n al g G A z X ii) [Hint.b true, Hint.b false, Hint.b false] (slT n al g G A z X (ii + 1)) =
 some (Ex.norm, [(0 : Nat) = 0,
 n = n,
 (none : Option Nat) = none,
 (0 : Nat) = 0,
 (0 : Nat) = 0,
 (0 : Nat) = 0,
 A.length = A.length,
 some A.length = some A.length,
 (0 : Nat) = 0,
 (0 : Nat) = 0,
 z = z,
 IntKind.i64.wrap (Int.ofNat ii + 1) = Int.ofNat (ii + 1),
 (0 : Nat) = 0,
 al = al,
 some al = some al,
 (0 : Int) = 0,
 X.st = X.st,
 X.L.c = X.L.c,
 X.L.k = X.L.k,
 X.L.a = X.L.a,
 X.L.f = X.L.f,
 X.L.w = X.L.w,
 X.L.i = X.L.i,
 X.L.d = X.L.d,
 ∀ (k : List Int), X.M k = X.M k,
 true = true,
 n ≤ n,
 g = g ∧ plainSh tSh = true ∨ ∀ (i : Nat), i < n → rowOb tSh 0 (g i) (g i),
 false = false,
 A.length ≤ A.length,
 wdF (wdAt A) = wdF (wdAt A) ∧ plainSh wSh = true ∨ ∀ (i : Nat), i < A.length → rowOb wSh 0 (wdF (wdAt A) i) (wdF (wdAt A) i),
 false = false,
 al ≤ al,
 G = G ∧ plainSh tSh = true ∨ ∀ (i : Nat), i < al → rowOb tSh 0 (G i) (G i),
 (and2 (avInt (G (0 + ii) 0) == 0) (and2 (avInt (G (0 + ii) 1) == 0) (and2 (avInt (G (0 + ii) 2) == 0) (and2 (avInt (G (0 + ii) 3) == 0) (and2 (avInt (G (0 + ii) 4) == 0) (and2 (avInt (G (0 + ii) 5) == 0) (and2 (avInt (G (0 + ii) 6) == 0) (and2 (and2 (avInt (G (0 + ii) 7) == 0) (and2 (avInt (G (0 + ii) 8) == 0) (and2 (avInt (G (0 + ii) 9) == 0) true))) true))))))) == false) = false,
 (0 + ii).blt al = true,
 (ii.blt al && decide (0 ≤ Int.ofNat ii)) = true,
 decide (Int.ofNat ii < Int.ofNat n) = false,
 decide (Int.ofNat ii < z) = true]) := by kernel_rfl
theorem slb_1 (n al : Nat) (g G : Nat → Nat → AV) (A : List (K3 × Int)) (z : Int) (X : MS) (ii : Nat) : roundB EM0 4000 slL ((slU n al g G A z X).hp) [] (slT n al g G A z X ii) [Hint.b true, Hint.b true, Hint.b false, Hint.b false] (slT n al g G A z X (ii + 1)) =
 some (Ex.norm, [(0 : Nat) = 0,
 n = n,
 (none : Option Nat) = none,
 (0 : Nat) = 0,
 (0 : Nat) = 0,
 (0 : Nat) = 0,
 A.length = A.length,
 some A.length = some A.length,
 (0 : Nat) = 0,
 (0 : Nat) = 0,
 z = z,
 IntKind.i64.wrap (Int.ofNat ii + 1) = Int.ofNat (ii + 1),
 (0 : Nat) = 0,
 al = al,
 some al = some al,
 (0 : Int) = 0,
 X.st = X.st,
 X.L.c = X.L.c,
 X.L.k = X.L.k,
 X.L.a = X.L.a,
 X.L.f = X.L.f,
 X.L.w = X.L.w,
 X.L.i = X.L.i,
 X.L.d = X.L.d,
 ∀ (k : List Int), X.M k = X.M k,
 true = true,
 n ≤ n,
 g = g ∧ plainSh tSh = true ∨ ∀ (i : Nat), i < n → rowOb tSh 0 (g i) (g i),
 false = false,
 A.length ≤ A.length,
 wdF (wdAt A) = wdF (wdAt A) ∧ plainSh wSh = true ∨ ∀ (i : Nat), i < A.length → rowOb wSh 0 (wdF (wdAt A) i) (wdF (wdAt A) i),
 false = false,
 al ≤ al,
 G = G ∧ plainSh tSh = true ∨ ∀ (i : Nat), i < al → rowOb tSh 0 (G i) (G i),
 (and2 (avInt (G (0 + ii) 0) == 0) (and2 (avInt (G (0 + ii) 1) == 0) (and2 (avInt (G (0 + ii) 2) == 0) (and2 (avInt (G (0 + ii) 3) == 0) (and2 (avInt (G (0 + ii) 4) == 0) (and2 (avInt (G (0 + ii) 5) == 0) (and2 (avInt (G (0 + ii) 6) == 0) (and2 (and2 (avInt (G (0 + ii) 7) == 0) (and2 (avInt (G (0 + ii) 8) == 0) (and2 (avInt (G (0 + ii) 9) == 0) true))) true))))))) == false) = false,
 (0 + ii).blt al = true,
 (ii.blt al && decide (0 ≤ Int.ofNat ii)) = true,
 (avInt (g (0 + ii) 0) != 0) = false,
 (0 + ii).blt n = true,
 (ii.blt n && decide (0 ≤ Int.ofNat ii)) = true,
 decide (Int.ofNat ii < Int.ofNat n) = true,
 decide (Int.ofNat ii < z) = true]) := by kernel_rfl
theorem slc_1 (n al : Nat) (g G : Nat → Nat → AV) (A : List (K3 × Int)) (z : Int) (X : MS) (ii : Nat) : roundB EM0 4000 slL ((slU n al g G A z X).hp) [] (slT n al g G A z X ii) [Hint.b true, Hint.b true, Hint.b true, Hint.b false] (slT n al g G A z X (ii + 1)) =
 some (Ex.norm, [(0 : Nat) = 0,
 n = n,
 (none : Option Nat) = none,
 (0 : Nat) = 0,
 (0 : Nat) = 0,
 (0 : Nat) = 0,
 A.length = A.length,
 some A.length = some A.length,
 (0 : Nat) = 0,
 (0 : Nat) = 0,
 z = z,
 IntKind.i64.wrap (Int.ofNat ii + 1) = Int.ofNat (ii + 1),
 (0 : Nat) = 0,
 al = al,
 some al = some al,
 (0 : Int) = 0,
 X.st = X.st,
 X.L.c = X.L.c,
 X.L.k = X.L.k,
 X.L.a = X.L.a,
 X.L.f = X.L.f,
 X.L.w = X.L.w,
 X.L.i = X.L.i,
 X.L.d = X.L.d,
 ∀ (k : List Int), X.M k = X.M k,
 true = true,
 n ≤ n,
 g = g ∧ plainSh tSh = true ∨ ∀ (i : Nat), i < n → rowOb tSh 0 (g i) (g i),
 false = false,
 A.length ≤ A.length,
 wdF (wdAt A) = wdF (wdAt A) ∧ plainSh wSh = true ∨ ∀ (i : Nat), i < A.length → rowOb wSh 0 (wdF (wdAt A) i) (wdF (wdAt A) i),
 false = false,
 al ≤ al,
 G = G ∧ plainSh tSh = true ∨ ∀ (i : Nat), i < al → rowOb tSh 0 (G i) (G i),
 (and2 (avInt (G (0 + ii) 0) == avInt (g (0 + ii) 0)) (and2 (avInt (G (0 + ii) 1) == avInt (g (0 + ii) 1)) (and2 (avInt (G (0 + ii) 2) == avInt (g (0 + ii) 2)) (and2 (avInt (G (0 + ii) 3) == avInt (g (0 + ii) 3)) (and2 (avInt (G (0 + ii) 4) == avInt (g (0 + ii) 4)) (and2 (avInt (G (0 + ii) 5) == avInt (g (0 + ii) 5)) (and2 (avInt (G (0 + ii) 6) == avInt (g (0 + ii) 6)) (and2 (and2 (avInt (G (0 + ii) 7) == avInt (g (0 + ii) 7)) (and2 (avInt (G (0 + ii) 8) == avInt (g (0 + ii) 8)) (and2 (avInt (G (0 + ii) 9) == avInt (g (0 + ii) 9)) true))) true))))))) == false) = false,
 (0 + ii).blt al = true,
 (ii.blt al && decide (0 ≤ Int.ofNat ii)) = true,
 (0 + ii).blt n = true,
 (ii.blt n && decide (0 ≤ Int.ofNat ii)) = true,
 (avInt (g (0 + ii) 0) != 0) = true,
 (0 + ii).blt n = true,
 (ii.blt n && decide (0 ≤ Int.ofNat ii)) = true,
 decide (Int.ofNat ii < Int.ofNat n) = true,
 decide (Int.ofNat ii < z) = true]) := by kernel_rfl
theorem slx_1 (n al : Nat) (g G : Nat → Nat → AV) (A : List (K3 × Int)) (z : Int) (X : MS) (ii : Nat) : roundB EM0 4000 slL ((slU n al g G A z X).hp) [] (slT n al g G A z X ii) [Hint.b false] (slX n al g G A z X) =
 some (Ex.exit 0, [(0 : Nat) = 0,
 (0 : Nat) = 0,
 (0 : Nat) = 0,
 A.length = A.length,
 some A.length = some A.length,
 X.st = X.st,
 X.L.c = X.L.c,
 X.L.k = X.L.k,
 X.L.a = X.L.a,
 X.L.f = X.L.f,
 X.L.w = X.L.w,
 X.L.i = X.L.i,
 X.L.d = X.L.d,
 ∀ (k : List Int), X.M k = X.M k,
 true = true,
 n ≤ n,
 g = g ∧ plainSh tSh = true ∨ ∀ (i : Nat), i < n → rowOb tSh 0 (g i) (g i),
 false = false,
 A.length ≤ A.length,
 wdF (wdAt A) = wdF (wdAt A) ∧ plainSh wSh = true ∨ ∀ (i : Nat), i < A.length → rowOb wSh 0 (wdF (wdAt A) i) (wdF (wdAt A) i),
 decide (Int.ofNat ii < z) = false]) := by kernel_rfl
theorem sli_1 (n al : Nat) (g G : Nat → Nat → AV) (A : List (K3 × Int)) (z : Int) (X : MS) : castSt ((slU n al g G A z X).hp) [] (slU n al g G A z X) (slT n al g G A z X 0) =
 some ([(0 : Nat) = 0,
 n = n,
 (none : Option Nat) = none,
 (0 : Nat) = 0,
 (0 : Nat) = 0,
 (0 : Nat) = 0,
 A.length = A.length,
 some A.length = some A.length,
 (0 : Nat) = 0,
 (0 : Nat) = 0,
 z = z,
 (0 : Int) = 0,
 (0 : Nat) = 0,
 al = al,
 some al = some al,
 (0 : Int) = 0,
 X.st = X.st,
 X.L.c = X.L.c,
 X.L.k = X.L.k,
 X.L.a = X.L.a,
 X.L.f = X.L.f,
 X.L.w = X.L.w,
 X.L.i = X.L.i,
 X.L.d = X.L.d,
 ∀ (k : List Int), X.M k = X.M k,
 true = true,
 n ≤ n,
 g = g ∧ plainSh tSh = true ∨ ∀ (i : Nat), i < n → rowOb tSh 0 (g i) (g i),
 false = false,
 A.length ≤ A.length,
 wdF (wdAt A) = wdF (wdAt A) ∧ plainSh wSh = true ∨ ∀ (i : Nat), i < A.length → rowOb wSh 0 (wdF (wdAt A) i) (wdF (wdAt A) i),
 false = false,
 al ≤ al,
 G = G ∧ plainSh tSh = true ∨ ∀ (i : Nat), i < al → rowOb tSh 0 (G i) (G i)]) := by kernel_rfl
theorem szx_1 (n al : Nat) (g G : Nat → Nat → AV) (A : List (K3 × Int)) (z : Int) (X : MS) : roundB EM0 4000 slL ((szU n al g G A z X).hp) [] (szU n al g G A z X) [Hint.b false] (slX n al g G A z X) =
 some (Ex.exit 0, [(0 : Nat) = 0,
 (0 : Nat) = 0,
 (0 : Nat) = 0,
 A.length = A.length,
 some A.length = some A.length,
 X.st = X.st,
 X.L.c = X.L.c,
 X.L.k = X.L.k,
 X.L.a = X.L.a,
 X.L.f = X.L.f,
 X.L.w = X.L.w,
 X.L.i = X.L.i,
 X.L.d = X.L.d,
 ∀ (k : List Int), X.M k = X.M k,
 true = true,
 n ≤ n,
 g = g ∧ plainSh tSh = true ∨ ∀ (i : Nat), i < n → rowOb tSh 0 (g i) (g i),
 false = false,
 A.length ≤ A.length,
 wdF (wdAt A) = wdF (wdAt A) ∧ plainSh wSh = true ∨ ∀ (i : Nat), i < A.length → rowOb wSh 0 (wdF (wdAt A) i) (wdF (wdAt A) i),
 decide (0 < z) = false]) := by kernel_rfl
theorem szi_1 (n al : Nat) (g G : Nat → Nat → AV) (A : List (K3 × Int)) (z : Int) (X : MS) : castSt ((szU n al g G A z X).hp) [] (szU n al g G A z X) (szU n al g G A z X) =
 some ([(0 : Nat) = 0,
 n = n,
 (none : Option Nat) = none,
 (0 : Nat) = 0,
 (0 : Nat) = 0,
 (0 : Nat) = 0,
 A.length = A.length,
 some A.length = some A.length,
 (0 : Nat) = 0,
 (0 : Nat) = 0,
 z = z,
 (0 : Nat) = 0,
 (0 : Nat) = 0,
 some 0 = some 0,
 (0 : Int) = 0,
 X.st = X.st,
 X.L.c = X.L.c,
 X.L.k = X.L.k,
 X.L.a = X.L.a,
 X.L.f = X.L.f,
 X.L.w = X.L.w,
 X.L.i = X.L.i,
 X.L.d = X.L.d,
 ∀ (k : List Int), X.M k = X.M k,
 true = true,
 n ≤ n,
 g = g ∧ plainSh tSh = true ∨ ∀ (i : Nat), i < n → rowOb tSh 0 (g i) (g i),
 false = false,
 A.length ≤ A.length,
 wdF (wdAt A) = wdF (wdAt A) ∧ plainSh wSh = true ∨ ∀ (i : Nat), i < A.length → rowOb wSh 0 (wdF (wdAt A) i) (wdF (wdAt A) i),
 false = false,
 (0 : Nat) ≤ (0 : Nat),
 G = G ∧ plainSh tSh = true ∨ ∀ (i : Nat), i < 0 → rowOb tSh 0 (G i) (G i)]) := by kernel_rfl
theorem sl_lp (n al : Nat) (g G : Nat → Nat → AV) (A : List (K3 × Int)) (z : Int) (X : MS) (hal : al ≤ 16) (hn : n ≤ 16) (hz : z = Int.ofNat al) (hw : ∀ i, i < al → WantR n g G i) : slLP n al g G A z X := by
  refine loop_rule EM0_ok (I := Nat) (fun i => slT n al g G A z X i) (fun i => al - i) (fun i => i ≤ al) ?_ (fun ii hi => ?_)
  ·
    refine ⟨0, [], _, Nat.zero_le _, sli_1 .., (ob_cons rfl (ob_cons rfl (ob_cons rfl (ob_cons rfl (ob_cons rfl (ob_cons rfl (ob_cons rfl (ob_cons rfl (ob_cons rfl (ob_cons rfl (ob_cons rfl (ob_cons rfl (ob_cons rfl (ob_cons rfl (ob_cons rfl (ob_cons rfl (ob_cons rfl (ob_cons rfl (ob_cons rfl (ob_cons rfl (ob_cons rfl (ob_cons rfl (ob_cons rfl (ob_cons rfl (ob_cons (fun _ => rfl) (ob_cons rfl (ob_cons (Nat.le_refl _) (ob_cons (.inl ⟨rfl, rfl⟩) (ob_cons rfl (ob_cons (Nat.le_refl _) (ob_cons (.inl ⟨rfl, rfl⟩) (ob_cons rfl (ob_cons (Nat.le_refl _) (ob_cons (.inl ⟨rfl, rfl⟩) ob_nil))))))))))))))))))))))))))))))))))⟩
  have hi : ii ≤ al := hi
  by_cases hin : ii < al
  · have h1 : decide (Int.ofNat ii < z) = true := decide_eq_true (by rw [hz]; simp; omega)
    have h2 : IntKind.i64.wrap (Int.ofNat ii + 1) = Int.ofNat (ii + 1) := wrap_nat64 _ (by simp; omega) (by simp; omega)
    have h3 : (ii.blt al && decide (0 ≤ Int.ofNat ii)) = true := by rw [Bool.and_eq_true]; exact ⟨by simpa [Nat.blt_eq] using hin, decide_eq_true (by simp)⟩
    have h4 : (0 + ii).blt al = true := by rw [Nat.zero_add]; simpa [Nat.blt_eq] using hin
    have hr := hw ii hin
    by_cases c1 : ii < n
    · have k1 : decide (Int.ofNat ii < Int.ofNat n) = true := decide_eq_true (by simp; omega)
      have h5 : (ii.blt n && decide (0 ≤ Int.ofNat ii)) = true := by rw [Bool.and_eq_true]; exact ⟨by simpa [Nat.blt_eq] using c1, decide_eq_true (by simp)⟩
      have h6 : (0 + ii).blt n = true := by rw [Nat.zero_add]; simpa [Nat.blt_eq] using c1
      by_cases c2 : avInt (g (0 + ii) 0) = 0
      · have k2 : (avInt (g (0 + ii) 0) != 0) = false := by simpa using c2
        have hr2 : ∀ j, j < 10 → avInt (G (0 + ii) j) = 0 := fun j hj => by rw [hr j hj, if_neg (fun q => q.2 c2)]
        have e0 := hr2 0 (by decide); have e1 := hr2 1 (by decide); have e2 := hr2 2 (by decide); have e3 := hr2 3 (by decide); have e4 := hr2 4 (by decide)
        have e5 := hr2 5 (by decide); have e6 := hr2 6 (by decide); have e7 := hr2 7 (by decide); have e8 := hr2 8 (by decide); have e9 := hr2 9 (by decide)
        refine round_norm (s0 := slU n al g G A z X) (T := fun i => slT n al g G A z X i) (i := ii) (ii + 1) (slb_1 n al g G A z X ii) (ob_cons rfl (ob_cons rfl (ob_cons rfl (ob_cons rfl (ob_cons rfl (ob_cons rfl (ob_cons rfl (ob_cons rfl (ob_cons rfl (ob_cons rfl (ob_cons rfl (ob_cons ?_ (ob_cons rfl (ob_cons rfl (ob_cons rfl (ob_cons rfl (ob_cons rfl (ob_cons rfl (ob_cons rfl (ob_cons rfl (ob_cons rfl (ob_cons rfl (ob_cons rfl (ob_cons rfl (ob_cons (fun _ => rfl) (ob_cons rfl (ob_cons (Nat.le_refl _) (ob_cons (.inl ⟨rfl, rfl⟩) (ob_cons rfl (ob_cons (Nat.le_refl _) (ob_cons (.inl ⟨rfl, rfl⟩) (ob_cons rfl (ob_cons (Nat.le_refl _) (ob_cons (.inl ⟨rfl, rfl⟩) (ob_cons ?_ (ob_cons ?_ (ob_cons ?_ (ob_cons ?_ (ob_cons ?_ (ob_cons ?_ (ob_cons ?_ (ob_cons ?_ ob_nil)))))))))))))))))))))))))))))))))))))))))) (by show ii + 1 ≤ al; omega) (by show al - (ii + 1) < al - ii; omega)
        · with_reducible assumption
        · (simp only [e0, e1, e2, e3, e4, e5, e6, e7, e8, e9]; simp [and2_eq]; done)
        · with_reducible assumption
        · with_reducible assumption
        · with_reducible assumption
        · with_reducible assumption
        · with_reducible assumption
        · with_reducible assumption
        · with_reducible assumption
      · have k2 : (avInt (g (0 + ii) 0) != 0) = true := by simpa using c2
        have hr2 : ∀ j, j < 10 → avInt (G (0 + ii) j) = avInt (g (0 + ii) j) := fun j hj => by rw [hr j hj, if_pos ⟨c1, c2⟩]
        have e0 := hr2 0 (by decide); have e1 := hr2 1 (by decide); have e2 := hr2 2 (by decide); have e3 := hr2 3 (by decide); have e4 := hr2 4 (by decide)
        have e5 := hr2 5 (by decide); have e6 := hr2 6 (by decide); have e7 := hr2 7 (by decide); have e8 := hr2 8 (by decide); have e9 := hr2 9 (by decide)
        refine round_norm (s0 := slU n al g G A z X) (T := fun i => slT n al g G A z X i) (i := ii) (ii + 1) (slc_1 n al g G A z X ii) (ob_cons rfl (ob_cons rfl (ob_cons rfl (ob_cons rfl (ob_cons rfl (ob_cons rfl (ob_cons rfl (ob_cons rfl (ob_cons rfl (ob_cons rfl (ob_cons rfl (ob_cons ?_ (ob_cons rfl (ob_cons rfl (ob_cons rfl (ob_cons rfl (ob_cons rfl (ob_cons rfl (ob_cons rfl (ob_cons rfl (ob_cons rfl (ob_cons rfl (ob_cons rfl (ob_cons rfl (ob_cons (fun _ => rfl) (ob_cons rfl (ob_cons (Nat.le_refl _) (ob_cons (.inl ⟨rfl, rfl⟩) (ob_cons rfl (ob_cons (Nat.le_refl _) (ob_cons (.inl ⟨rfl, rfl⟩) (ob_cons rfl (ob_cons (Nat.le_refl _) (ob_cons (.inl ⟨rfl, rfl⟩) (ob_cons ?_ (ob_cons ?_ (ob_cons ?_ (ob_cons ?_ (ob_cons ?_ (ob_cons ?_ (ob_cons ?_ (ob_cons ?_ (ob_cons ?_ (ob_cons ?_ ob_nil)))))))))))))))))))))))))))))))))))))))))))) (by show ii + 1 ≤ al; omega) (by show al - (ii + 1) < al - ii; omega)
        · with_reducible assumption
        · (simp only [e0, e1, e2, e3, e4, e5, e6, e7, e8, e9]; simp [and2_eq]; done)
        · with_reducible assumption
        · with_reducible assumption
        · with_reducible assumption
        · with_reducible assumption
        · with_reducible assumption
        · with_reducible assumption
        · with_reducible assumption
        · with_reducible assumption
        · with_reducible assumption
    · have k1 : decide (Int.ofNat ii < Int.ofNat n) = false := decide_eq_false (by simp; omega)
      have hr2 : ∀ j, j < 10 → avInt (G (0 + ii) j) = 0 := fun j hj => by rw [hr j hj, if_neg (fun q => c1 q.1)]
      have e0 := hr2 0 (by decide); have e1 := hr2 1 (by decide); have e2 := hr2 2 (by decide); have e3 := hr2 3 (by decide); have e4 := hr2 4 (by decide)
      have e5 := hr2 5 (by decide); have e6 := hr2 6 (by decide); have e7 := hr2 7 (by decide); have e8 := hr2 8 (by decide); have e9 := hr2 9 (by decide)
      refine round_norm (s0 := slU n al g G A z X) (T := fun i => slT n al g G A z X i) (i := ii) (ii + 1) (sla_1 n al g G A z X ii) (ob_cons rfl (ob_cons rfl (ob_cons rfl (ob_cons rfl (ob_cons rfl (ob_cons rfl (ob_cons rfl (ob_cons rfl (ob_cons rfl (ob_cons rfl (ob_cons rfl (ob_cons ?_ (ob_cons rfl (ob_cons rfl (ob_cons rfl (ob_cons rfl (ob_cons rfl (ob_cons rfl (ob_cons rfl (ob_cons rfl (ob_cons rfl (ob_cons rfl (ob_cons rfl (ob_cons rfl (ob_cons (fun _ => rfl) (ob_cons rfl (ob_cons (Nat.le_refl _) (ob_cons (.inl ⟨rfl, rfl⟩) (ob_cons rfl (ob_cons (Nat.le_refl _) (ob_cons (.inl ⟨rfl, rfl⟩) (ob_cons rfl (ob_cons (Nat.le_refl _) (ob_cons (.inl ⟨rfl, rfl⟩) (ob_cons ?_ (ob_cons ?_ (ob_cons ?_ (ob_cons ?_ (ob_cons ?_ ob_nil))))))))))))))))))))))))))))))))))))))) (by show ii + 1 ≤ al; omega) (by show al - (ii + 1) < al - ii; omega)
      · with_reducible assumption
      · (simp only [e0, e1, e2, e3, e4, e5, e6, e7, e8, e9]; simp [and2_eq]; done)
      · with_reducible assumption
      · with_reducible assumption
      · with_reducible assumption
      · with_reducible assumption
  · obtain rfl : al = ii := by omega
    have h1 : decide (Int.ofNat al < z) = false := decide_eq_false (by rw [hz]; simp)
    refine round_exit (s0 := slU n al g G A z X) (T := fun i => slT n al g G A z X i) (i := al) (slx_1 n al g G A z X al) (by simp) (ob_cons rfl (ob_cons rfl (ob_cons rfl (ob_cons rfl (ob_cons rfl (ob_cons rfl (ob_cons rfl (ob_cons rfl (ob_cons rfl (ob_cons rfl (ob_cons rfl (ob_cons rfl (ob_cons rfl (ob_cons (fun _ => rfl) (ob_cons rfl (ob_cons (Nat.le_refl _) (ob_cons (.inl ⟨rfl, rfl⟩) (ob_cons rfl (ob_cons (Nat.le_refl _) (ob_cons (.inl ⟨rfl, rfl⟩) (ob_cons ?_ ob_nil)))))))))))))))))))))
    · with_reducible assumption
theorem sz_lp (n al : Nat) (g G : Nat → Nat → AV) (A : List (K3 × Int)) (z : Int) (X : MS) (hz : z = 0) : szLP n al g G A z X := by
  refine loop_rule EM0_ok (I := Unit) (fun _ => szU n al g G A z X) (fun _ => 0) (fun _ => True) ?_ (fun ii hi => ?_)
  ·
    refine ⟨(), [], _, trivial, szi_1 .., (ob_cons rfl (ob_cons rfl (ob_cons rfl (ob_cons rfl (ob_cons rfl (ob_cons rfl (ob_cons rfl (ob_cons rfl (ob_cons rfl (ob_cons rfl (ob_cons rfl (ob_cons rfl (ob_cons rfl (ob_cons rfl (ob_cons rfl (ob_cons rfl (ob_cons rfl (ob_cons rfl (ob_cons rfl (ob_cons rfl (ob_cons rfl (ob_cons rfl (ob_cons rfl (ob_cons (fun _ => rfl) (ob_cons rfl (ob_cons (Nat.le_refl _) (ob_cons (.inl ⟨rfl, rfl⟩) (ob_cons rfl (ob_cons (Nat.le_refl _) (ob_cons (.inl ⟨rfl, rfl⟩) (ob_cons rfl (ob_cons (Nat.le_refl _) (ob_cons (.inl ⟨rfl, rfl⟩) ob_nil)))))))))))))))))))))))))))))))))⟩
  have h1 : decide ((0 : Int) < z) = false := decide_eq_false (by rw [hz]; decide)
  refine round_exit (s0 := szU n al g G A z X) (T := fun _ => szU n al g G A z X) (i := ()) (szx_1 n al g G A z X) (by simp) (ob_cons rfl (ob_cons rfl (ob_cons rfl (ob_cons rfl (ob_cons rfl (ob_cons rfl (ob_cons rfl (ob_cons rfl (ob_cons rfl (ob_cons rfl (ob_cons rfl (ob_cons rfl (ob_cons rfl (ob_cons (fun _ => rfl) (ob_cons rfl (ob_cons (Nat.le_refl _) (ob_cons (.inl ⟨rfl, rfl⟩) (ob_cons rfl (ob_cons (Nat.le_refl _) (ob_cons (.inl ⟨rfl, rfl⟩) (ob_cons ?_ ob_nil)))))))))))))))))))))
  · with_reducible assumption

end Go.Proofs.Ytmlfmmnnbdlabaa
