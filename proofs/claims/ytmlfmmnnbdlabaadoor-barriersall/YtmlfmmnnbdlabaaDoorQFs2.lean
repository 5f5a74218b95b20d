/-
  BarriersAll: the loop that looks for the first.
-/
import Derived.Test.YtmlfmmnnbdlabaaDoorQFsDef
set_option linter.unusedSimpArgs false
set_option linter.unusedVariables false
namespace Go.Proofs.YtmlfmmnnbdlabaaDoor
open Go.Ev
theorem fsa_1 (n : Nat) (g : Nat → Nat → AV) (z0 z1 nb lk al : Int) (X : MS) (ii : Nat) (fi : Int) : roundB EM0 4000 fsL ((fsU n g z0 z1 nb lk al X).hp) [] (fsT n g z0 z1 nb lk al X ii fi) [Hint.b true, Hint.b true, Hint.b true, Hint.b false] (fsT n g z0 z1 nb lk al X (ii + 1) fi) =
 some (Ex.norm, [(0 : Nat) = 0,
 n = n,
 (none : Option Nat) = none,
 (0 : Nat) = 0,
 (0 : Nat) = 0,
 nb = nb,
 lk = lk,
 al = al,
 fi = fi,
 IntKind.i64.wrap (Int.ofNat ii + 1) = Int.ofNat (ii + 1),
 X.st = X.st,
 X.L.c = X.L.c,
 X.L.k = X.L.k,
 X.L.a = X.L.a,
 X.L.f = X.L.f,
 X.L.w = X.L.w,
 X.L.i = X.L.i,
 X.L.d = X.L.d,
 ∀ (k : List Int), X.M k = X.M k,
 true = true,
 (1 : Nat) ≤ (1 : Nat),
 tabF tab = tabF tab ∧ plainSh (List.map kindOfV tab) = true ∨ ∀ (i : Nat), i < 1 → rowOb (List.map kindOfV tab) 0 (tabF tab i) (tabF tab i),
 true = true,
 n ≤ n,
 g = g ∧ plainSh tSh = true ∨ ∀ (i : Nat), i < n → rowOb tSh 0 (g i) (g i),
 (avInt (g (0 + ii) 0) != 0) = false,
 (0 + ii).blt n = true,
 (ii.blt n && decide (0 ≤ Int.ofNat ii)) = true,
 decide (fi < 0) = true,
 decide (Int.ofNat ii < al) = true,
 decide (Int.ofNat ii < Int.ofNat n) = true]) := by kernel_rfl
theorem fsb_1 (n : Nat) (g : Nat → Nat → AV) (z0 z1 nb lk al : Int) (X : MS) (ii : Nat) (fi : Int) : roundB EM0 4000 fsL ((fsU n g z0 z1 nb lk al X).hp) [] (fsT n g z0 z1 nb lk al X ii fi) [Hint.b true, Hint.b true, Hint.b true, Hint.b true, Hint.b false] (fsT n g z0 z1 nb lk al X (ii + 1) fi) =
 some (Ex.norm, [(0 : Nat) = 0,
 n = n,
 (none : Option Nat) = none,
 (0 : Nat) = 0,
 (0 : Nat) = 0,
 nb = nb,
 lk = lk,
 al = al,
 fi = fi,
 IntKind.i64.wrap (Int.ofNat ii + 1) = Int.ofNat (ii + 1),
 X.st = X.st,
 X.L.c = X.L.c,
 X.L.k = X.L.k,
 X.L.a = X.L.a,
 X.L.f = X.L.f,
 X.L.w = X.L.w,
 X.L.i = X.L.i,
 X.L.d = X.L.d,
 ∀ (k : List Int), X.M k = X.M k,
 true = true,
 (1 : Nat) ≤ (1 : Nat),
 tabF tab = tabF tab ∧ plainSh (List.map kindOfV tab) = true ∨ ∀ (i : Nat), i < 1 → rowOb (List.map kindOfV tab) 0 (tabF tab i) (tabF tab i),
 true = true,
 n ≤ n,
 g = g ∧ plainSh tSh = true ∨ ∀ (i : Nat), i < n → rowOb tSh 0 (g i) (g i),
 (avInt (g (0 + ii) 1) != 0) = false,
 (0 + ii).blt n = true,
 (ii.blt n && decide (0 ≤ Int.ofNat ii)) = true,
 (avInt (g (0 + ii) 0) != 0) = true,
 (0 + ii).blt n = true,
 (ii.blt n && decide (0 ≤ Int.ofNat ii)) = true,
 decide (fi < 0) = true,
 decide (Int.ofNat ii < al) = true,
 decide (Int.ofNat ii < Int.ofNat n) = true]) := by kernel_rfl
theorem fsc_1 (n : Nat) (g : Nat → Nat → AV) (z0 z1 nb lk al : Int) (X : MS) (ii : Nat) (fi : Int) : roundB EM0 4000 fsL ((fsU n g z0 z1 nb lk al X).hp) [] (fsT n g z0 z1 nb lk al X ii fi) [Hint.b true, Hint.b true, Hint.b true, Hint.b true, Hint.b true, Hint.b false] (fsT n g z0 z1 nb lk al X (ii + 1) fi) =
 some (Ex.norm, [(0 : Nat) = 0,
 n = n,
 (none : Option Nat) = none,
 (0 : Nat) = 0,
 (0 : Nat) = 0,
 nb = nb,
 lk = lk,
 al = al,
 fi = fi,
 IntKind.i64.wrap (Int.ofNat ii + 1) = Int.ofNat (ii + 1),
 X.st = X.st,
 X.L.c = X.L.c,
 X.L.k = X.L.k,
 X.L.a = X.L.a,
 X.L.f = X.L.f,
 X.L.w = X.L.w,
 X.L.i = X.L.i,
 X.L.d = X.L.d,
 ∀ (k : List Int), X.M k = X.M k,
 true = true,
 (1 : Nat) ≤ (1 : Nat),
 tabF tab = tabF tab ∧ plainSh (List.map kindOfV tab) = true ∨ ∀ (i : Nat), i < 1 → rowOb (List.map kindOfV tab) 0 (tabF tab i) (tabF tab i),
 true = true,
 n ≤ n,
 g = g ∧ plainSh tSh = true ∨ ∀ (i : Nat), i < n → rowOb tSh 0 (g i) (g i),
 (avInt (g (0 + ii) 6) == 0) = false,
 (0 + ii).blt n = true,
 (ii.blt n && decide (0 ≤ Int.ofNat ii)) = true,
 (avInt (g (0 + ii) 1) != 0) = true,
 (0 + ii).blt n = true,
 (ii.blt n && decide (0 ≤ Int.ofNat ii)) = true,
 (avInt (g (0 + ii) 0) != 0) = true,
 (0 + ii).blt n = true,
 (ii.blt n && decide (0 ≤ Int.ofNat ii)) = true,
 decide (fi < 0) = true,
 decide (Int.ofNat ii < al) = true,
 decide (Int.ofNat ii < Int.ofNat n) = true]) := by kernel_rfl
theorem fsd_1 (n : Nat) (g : Nat → Nat → AV) (z0 z1 nb lk al : Int) (X : MS) (ii : Nat) (fi : Int) : roundB EM0 4000 fsL ((fsU n g z0 z1 nb lk al X).hp) [] (fsT n g z0 z1 nb lk al X ii fi) [Hint.b true, Hint.b true, Hint.b true, Hint.b true, Hint.b true, Hint.b true, Hint.b false] (fsT n g z0 z1 nb lk al X (ii + 1) fi) =
 some (Ex.norm, [(0 : Nat) = 0,
 n = n,
 (none : Option Nat) = none,
 (0 : Nat) = 0,
 (0 : Nat) = 0,
 nb = nb,
 lk = lk,
 al = al,
 fi = fi,
 IntKind.i64.wrap (Int.ofNat ii + 1) = Int.ofNat (ii + 1),
 X.st = X.st,
 X.L.c = X.L.c,
 X.L.k = X.L.k,
 X.L.a = X.L.a,
 X.L.f = X.L.f,
 X.L.w = X.L.w,
 X.L.i = X.L.i,
 X.L.d = X.L.d,
 ∀ (k : List Int), X.M k = X.M k,
 true = true,
 (1 : Nat) ≤ (1 : Nat),
 tabF tab = tabF tab ∧ plainSh (List.map kindOfV tab) = true ∨ ∀ (i : Nat), i < 1 → rowOb (List.map kindOfV tab) 0 (tabF tab i) (tabF tab i),
 true = true,
 n ≤ n,
 g = g ∧ plainSh tSh = true ∨ ∀ (i : Nat), i < n → rowOb tSh 0 (g i) (g i),
 (!decide ((IntKind.u64.wrap (avInt (g (0 + ii) 2) - nb)).tmod 281474976710656 < 140737488355328)) = false,
 (0 + ii).blt n = true,
 (ii.blt n && decide (0 ≤ Int.ofNat ii)) = true,
 (avInt (g (0 + ii) 6) == 0) = true,
 (0 + ii).blt n = true,
 (ii.blt n && decide (0 ≤ Int.ofNat ii)) = true,
 (avInt (g (0 + ii) 1) != 0) = true,
 (0 + ii).blt n = true,
 (ii.blt n && decide (0 ≤ Int.ofNat ii)) = true,
 (avInt (g (0 + ii) 0) != 0) = true,
 (0 + ii).blt n = true,
 (ii.blt n && decide (0 ≤ Int.ofNat ii)) = true,
 decide (fi < 0) = true,
 decide (Int.ofNat ii < al) = true,
 decide (Int.ofNat ii < Int.ofNat n) = true]) := by kernel_rfl
theorem fse_1 (n : Nat) (g : Nat → Nat → AV) (z0 z1 nb lk al : Int) (X : MS) (ii : Nat) (fi : Int) : roundB EM0 4000 fsL ((fsU n g z0 z1 nb lk al X).hp) [] (fsT n g z0 z1 nb lk al X ii fi) [Hint.b true, Hint.b true, Hint.b true, Hint.b true, Hint.b true, Hint.b true, Hint.b true] (fsT n g z0 z1 nb lk al X (ii + 1) (Int.ofNat ii)) =
 some (Ex.norm, [(0 : Nat) = 0,
 n = n,
 (none : Option Nat) = none,
 (0 : Nat) = 0,
 (0 : Nat) = 0,
 nb = nb,
 lk = lk,
 al = al,
 Int.ofNat ii = Int.ofNat ii,
 IntKind.i64.wrap (Int.ofNat ii + 1) = Int.ofNat (ii + 1),
 X.st = X.st,
 X.L.c = X.L.c,
 X.L.k = X.L.k,
 X.L.a = X.L.a,
 X.L.f = X.L.f,
 X.L.w = X.L.w,
 X.L.i = X.L.i,
 X.L.d = X.L.d,
 ∀ (k : List Int), X.M k = X.M k,
 true = true,
 (1 : Nat) ≤ (1 : Nat),
 tabF tab = tabF tab ∧ plainSh (List.map kindOfV tab) = true ∨ ∀ (i : Nat), i < 1 → rowOb (List.map kindOfV tab) 0 (tabF tab i) (tabF tab i),
 true = true,
 n ≤ n,
 g = g ∧ plainSh tSh = true ∨ ∀ (i : Nat), i < n → rowOb tSh 0 (g i) (g i),
 (!decide ((IntKind.u64.wrap (avInt (g (0 + ii) 2) - nb)).tmod 281474976710656 < 140737488355328)) = true,
 (0 + ii).blt n = true,
 (ii.blt n && decide (0 ≤ Int.ofNat ii)) = true,
 (avInt (g (0 + ii) 6) == 0) = true,
 (0 + ii).blt n = true,
 (ii.blt n && decide (0 ≤ Int.ofNat ii)) = true,
 (avInt (g (0 + ii) 1) != 0) = true,
 (0 + ii).blt n = true,
 (ii.blt n && decide (0 ≤ Int.ofNat ii)) = true,
 (avInt (g (0 + ii) 0) != 0) = true,
 (0 + ii).blt n = true,
 (ii.blt n && decide (0 ≤ Int.ofNat ii)) = true,
 decide (fi < 0) = true,
 decide (Int.ofNat ii < al) = true,
 decide (Int.ofNat ii < Int.ofNat n) = true]) := by kernel_rfl
theorem fsx_1 (n : Nat) (g : Nat → Nat → AV) (z0 z1 nb lk al : Int) (X : MS) (ii : Nat) (fi : Int) : roundB EM0 4000 fsL ((fsU n g z0 z1 nb lk al X).hp) [] (fsT n g z0 z1 nb lk al X ii fi) [Hint.b false] (fsX n g z0 z1 nb lk al X fi) =
 some (Ex.exit 0, [(0 : Nat) = 0,
 (0 : Nat) = 0,
 nb = nb,
 lk = lk,
 al = al,
 fi = fi,
 X.st = X.st,
 X.L.c = X.L.c,
 X.L.k = X.L.k,
 X.L.a = X.L.a,
 X.L.f = X.L.f,
 X.L.w = X.L.w,
 X.L.i = X.L.i,
 X.L.d = X.L.d,
 ∀ (k : List Int), X.M k = X.M k,
 true = true,
 (1 : Nat) ≤ (1 : Nat),
 tabF tab = tabF tab ∧ plainSh (List.map kindOfV tab) = true ∨ ∀ (i : Nat), i < 1 → rowOb (List.map kindOfV tab) 0 (tabF tab i) (tabF tab i),
 true = true,
 n ≤ n,
 g = g ∧ plainSh tSh = true ∨ ∀ (i : Nat), i < n → rowOb tSh 0 (g i) (g i),
 decide (Int.ofNat ii < Int.ofNat n) = false]) := by kernel_rfl
theorem fsy_1 (n : Nat) (g : Nat → Nat → AV) (z0 z1 nb lk al : Int) (X : MS) (ii : Nat) (fi : Int) : roundB EM0 4000 fsL ((fsU n g z0 z1 nb lk al X).hp) [] (fsT n g z0 z1 nb lk al X ii fi) [Hint.b true, Hint.b false] (fsX n g z0 z1 nb lk al X fi) =
 some (Ex.exit 0, [(0 : Nat) = 0,
 (0 : Nat) = 0,
 nb = nb,
 lk = lk,
 al = al,
 fi = fi,
 X.st = X.st,
 X.L.c = X.L.c,
 X.L.k = X.L.k,
 X.L.a = X.L.a,
 X.L.f = X.L.f,
 X.L.w = X.L.w,
 X.L.i = X.L.i,
 X.L.d = X.L.d,
 ∀ (k : List Int), X.M k = X.M k,
 true = true,
 (1 : Nat) ≤ (1 : Nat),
 tabF tab = tabF tab ∧ plainSh (List.map kindOfV tab) = true ∨ ∀ (i : Nat), i < 1 → rowOb (List.map kindOfV tab) 0 (tabF tab i) (tabF tab i),
 true = true,
 n ≤ n,
 g = g ∧ plainSh tSh = true ∨ ∀ (i : Nat), i < n → rowOb tSh 0 (g i) (g i),
 decide (Int.ofNat ii < al) = false,
 decide (Int.ofNat ii < Int.ofNat n) = true]) := by kernel_rfl
theorem fsz_1 (n : Nat) (g : Nat → Nat → AV) (z0 z1 nb lk al : Int) (X : MS) (ii : Nat) (fi : Int) : roundB EM0 4000 fsL ((fsU n g z0 z1 nb lk al X).hp) [] (fsT n g z0 z1 nb lk al X ii fi) [Hint.b true, Hint.b true, Hint.b false] (fsX n g z0 z1 nb lk al X fi) =
 some (Ex.exit 0, [(0 : Nat) = 0,
 (0 : Nat) = 0,
 nb = nb,
 lk = lk,
 al = al,
 fi = fi,
 X.st = X.st,
 X.L.c = X.L.c,
 X.L.k = X.L.k,
 X.L.a = X.L.a,
 X.L.f = X.L.f,
 X.L.w = X.L.w,
 X.L.i = X.L.i,
 X.L.d = X.L.d,
 ∀ (k : List Int), X.M k = X.M k,
 true = true,
 (1 : Nat) ≤ (1 : Nat),
 tabF tab = tabF tab ∧ plainSh (List.map kindOfV tab) = true ∨ ∀ (i : Nat), i < 1 → rowOb (List.map kindOfV tab) 0 (tabF tab i) (tabF tab i),
 true = true,
 n ≤ n,
 g = g ∧ plainSh tSh = true ∨ ∀ (i : Nat), i < n → rowOb tSh 0 (g i) (g i),
 decide (fi < 0) = false,
 decide (Int.ofNat ii < al) = true,
 decide (Int.ofNat ii < Int.ofNat n) = true]) := by kernel_rfl
theorem fsi_1 (n : Nat) (g : Nat → Nat → AV) (z0 z1 nb lk al : Int) (X : MS) : castSt ((fsU n g z0 z1 nb lk al X).hp) [] (fsU n g z0 z1 nb lk al X) (fsT n g z0 z1 nb lk al X 0 (-1)) =
 some ([(0 : Nat) = 0,
 n = n,
 (none : Option Nat) = none,
 (0 : Nat) = 0,
 (0 : Nat) = 0,
 nb = nb,
 lk = lk,
 al = al,
 (-1 : Int) = -1,
 (0 : Int) = 0,
 X.st = X.st,
 X.L.c = X.L.c,
 X.L.k = X.L.k,
 X.L.a = X.L.a,
 X.L.f = X.L.f,
 X.L.w = X.L.w,
 X.L.i = X.L.i,
 X.L.d = X.L.d,
 ∀ (k : List Int), X.M k = X.M k,
 true = true,
 (1 : Nat) ≤ (1 : Nat),
 tabF tab = tabF tab ∧ plainSh (List.map kindOfV tab) = true ∨ ∀ (i : Nat), i < 1 → rowOb (List.map kindOfV tab) 0 (tabF tab i) (tabF tab i),
 true = true,
 n ≤ n,
 g = g ∧ plainSh tSh = true ∨ ∀ (i : Nat), i < n → rowOb tSh 0 (g i) (g i)]) := by kernel_rfl
theorem fs_lp (n : Nat) (g : Nat → Nat → AV) (z0 z1 nb lk al : Int) (X : MS) (K N : Nat) (hn : n ≤ 16) (hal : 0 ≤ al ∧ al ≤ 16) (hN1 : N ≤ n) (hN2 : Int.ofNat N ≤ al) (hN3 : N = n ∨ Int.ofNat N = al) (hK : K ≤ N) (hKb : K < N → blkB g nb K = true) (hKa : ∀ i, i < K → blkB g nb i = false) : fsLP n g z0 z1 nb lk al X (fsF K N) := by
  refine loop_rule EM0_ok (I := Nat × Int) (fun x => fsT n g z0 z1 nb lk al X x.1 x.2) (fun x => fsE K N - x.1) (fun x => x.1 ≤ fsE K N ∧ x.2 = fsN K N x.1) ?_ (fun x hx => ?_)
  ·
    refine ⟨(0, -1), [], _, ⟨Nat.zero_le _, rfl⟩, fsi_1 .., (ob_cons rfl (ob_cons rfl (ob_cons rfl (ob_cons rfl (ob_cons rfl (ob_cons rfl (ob_cons rfl (ob_cons rfl (ob_cons rfl (ob_cons rfl (ob_cons rfl (ob_cons rfl (ob_cons rfl (ob_cons rfl (ob_cons rfl (ob_cons rfl (ob_cons rfl (ob_cons rfl (ob_cons (fun _ => rfl) (ob_cons rfl (ob_cons (Nat.le_refl _) (ob_cons (.inl ⟨rfl, rfl⟩) (ob_cons rfl (ob_cons (Nat.le_refl _) (ob_cons (.inl ⟨rfl, rfl⟩) ob_nil)))))))))))))))))))))))))⟩
  obtain ⟨ii, fi⟩ := x
  obtain ⟨hi, hfi⟩ := hx
  have hi : ii ≤ fsE K N := hi
  have hfi : fi = fsN K N ii := hfi
  by_cases hin : ii < N ∧ ii ≤ K
  · have hE : ii < fsE K N := by unfold fsE; split <;> omega
    have hm : fi = -1 := by rw [hfi]; exact if_pos hin.2
    have h1 : decide (Int.ofNat ii < Int.ofNat n) = true := decide_eq_true (by simp; omega)
    have h2 : decide (Int.ofNat ii < al) = true := decide_eq_true (by simp at hN2 ⊢; omega)
    have h3 : decide (fi < 0) = true := by rw [hm]; rfl
    have h4 : IntKind.i64.wrap (Int.ofNat ii + 1) = Int.ofNat (ii + 1) := wrap_nat64 _ (by simp; omega) (by simp; omega)
    have h5 : (ii.blt n && decide (0 ≤ Int.ofNat ii)) = true := by rw [Bool.and_eq_true]; exact ⟨Nat.ble_eq_true_of_le (show ii + 1 ≤ n by omega), decide_eq_true (by simp)⟩
    have h6 : (0 + ii).blt n = true := by rw [Nat.zero_add]; exact Nat.ble_eq_true_of_le (show ii + 1 ≤ n by omega)
    by_cases hk : ii = K
    · have hb := hKb (by omega)
      rw [← hk] at hb
      have hnx : Int.ofNat ii = fsN K N (ii + 1) := by unfold fsN fsF; rw [if_neg (by omega), if_pos (by omega), hk]
      unfold blkB at hb
      cases b0 : (avInt (g (0 + ii) 0) != 0) with
      | false => rw [b0] at hb; cases hb
      | true =>
        rw [b0] at hb
        cases b1 : (avInt (g (0 + ii) 1) != 0) with
        | false => rw [b1] at hb; cases hb
        | true =>
          rw [b1] at hb
          cases b2 : (avInt (g (0 + ii) 6) == 0) with
          | false => rw [b2] at hb; cases hb
          | true =>
            rw [b2] at hb
            have b3 : (!bpReach nb (avInt (g (0 + ii) 2))) = true := hb
            refine round_norm (s0 := fsU n g z0 z1 nb lk al X) (T := fun x : Nat × Int => fsT n g z0 z1 nb lk al X x.1 x.2) (i := (ii, fi)) (ii + 1, (Int.ofNat ii)) (fse_1 ..) (ob_cons rfl (ob_cons rfl (ob_cons rfl (ob_cons rfl (ob_cons rfl (ob_cons rfl (ob_cons rfl (ob_cons rfl (ob_cons rfl (ob_cons ?_ (ob_cons rfl (ob_cons rfl (ob_cons rfl (ob_cons rfl (ob_cons rfl (ob_cons rfl (ob_cons rfl (ob_cons rfl (ob_cons (fun _ => rfl) (ob_cons rfl (ob_cons (Nat.le_refl _) (ob_cons (.inl ⟨rfl, rfl⟩) (ob_cons rfl (ob_cons (Nat.le_refl _) (ob_cons (.inl ⟨rfl, rfl⟩) (ob_cons ?_ (ob_cons ?_ (ob_cons ?_ (ob_cons ?_ (ob_cons ?_ (ob_cons ?_ (ob_cons ?_ (ob_cons ?_ (ob_cons ?_ (ob_cons ?_ (ob_cons ?_ (ob_cons ?_ (ob_cons ?_ (ob_cons ?_ (ob_cons ?_ ob_nil)))))))))))))))))))))))))))))))))))))))) ⟨by show ii + 1 ≤ fsE K N; omega, hnx⟩ (by show fsE K N - (ii + 1) < fsE K N - ii; omega)
            · with_reducible assumption
            · exact b3
            · with_reducible assumption
            · with_reducible assumption
            · with_reducible assumption
            · with_reducible assumption
            · with_reducible assumption
            · with_reducible assumption
            · with_reducible assumption
            · with_reducible assumption
            · with_reducible assumption
            · with_reducible assumption
            · with_reducible assumption
            · with_reducible assumption
            · with_reducible assumption
            · with_reducible assumption
    · have hb := hKa ii (by omega)
      have hnx : fi = fsN K N (ii + 1) := by unfold fsN; rw [if_pos (by omega)]; exact hm
      unfold blkB at hb
      cases b0 : (avInt (g (0 + ii) 0) != 0) with
      | false =>
        refine round_norm (s0 := fsU n g z0 z1 nb lk al X) (T := fun x : Nat × Int => fsT n g z0 z1 nb lk al X x.1 x.2) (i := (ii, fi)) (ii + 1, fi) (fsa_1 ..) (ob_cons rfl (ob_cons rfl (ob_cons rfl (ob_cons rfl (ob_cons rfl (ob_cons rfl (ob_cons rfl (ob_cons rfl (ob_cons rfl (ob_cons ?_ (ob_cons rfl (ob_cons rfl (ob_cons rfl (ob_cons rfl (ob_cons rfl (ob_cons rfl (ob_cons rfl (ob_cons rfl (ob_cons (fun _ => rfl) (ob_cons rfl (ob_cons (Nat.le_refl _) (ob_cons (.inl ⟨rfl, rfl⟩) (ob_cons rfl (ob_cons (Nat.le_refl _) (ob_cons (.inl ⟨rfl, rfl⟩) (ob_cons ?_ (ob_cons ?_ (ob_cons ?_ (ob_cons ?_ (ob_cons ?_ (ob_cons ?_ ob_nil))))))))))))))))))))))))))))))) ⟨by show ii + 1 ≤ fsE K N; omega, hnx⟩ (by show fsE K N - (ii + 1) < fsE K N - ii; omega)
        · with_reducible assumption
        · with_reducible assumption
        · with_reducible assumption
        · with_reducible assumption
        · with_reducible assumption
        · with_reducible assumption
        · with_reducible assumption
      | true =>
        rw [b0] at hb
        cases b1 : (avInt (g (0 + ii) 1) != 0) with
        | false =>
          refine round_norm (s0 := fsU n g z0 z1 nb lk al X) (T := fun x : Nat × Int => fsT n g z0 z1 nb lk al X x.1 x.2) (i := (ii, fi)) (ii + 1, fi) (fsb_1 ..) (ob_cons rfl (ob_cons rfl (ob_cons rfl (ob_cons rfl (ob_cons rfl (ob_cons rfl (ob_cons rfl (ob_cons rfl (ob_cons rfl (ob_cons ?_ (ob_cons rfl (ob_cons rfl (ob_cons rfl (ob_cons rfl (ob_cons rfl (ob_cons rfl (ob_cons rfl (ob_cons rfl (ob_cons (fun _ => rfl) (ob_cons rfl (ob_cons (Nat.le_refl _) (ob_cons (.inl ⟨rfl, rfl⟩) (ob_cons rfl (ob_cons (Nat.le_refl _) (ob_cons (.inl ⟨rfl, rfl⟩) (ob_cons ?_ (ob_cons ?_ (ob_cons ?_ (ob_cons ?_ (ob_cons ?_ (ob_cons ?_ (ob_cons ?_ (ob_cons ?_ (ob_cons ?_ ob_nil)))))))))))))))))))))))))))))))))) ⟨by show ii + 1 ≤ fsE K N; omega, hnx⟩ (by show fsE K N - (ii + 1) < fsE K N - ii; omega)
          · with_reducible assumption
          · with_reducible assumption
          · with_reducible assumption
          · with_reducible assumption
          · with_reducible assumption
          · with_reducible assumption
          · with_reducible assumption
          · with_reducible assumption
          · with_reducible assumption
          · with_reducible assumption
        | true =>
          rw [b1] at hb
          cases b2 : (avInt (g (0 + ii) 6) == 0) with
          | false =>
            refine round_norm (s0 := fsU n g z0 z1 nb lk al X) (T := fun x : Nat × Int => fsT n g z0 z1 nb lk al X x.1 x.2) (i := (ii, fi)) (ii + 1, fi) (fsc_1 ..) (ob_cons rfl (ob_cons rfl (ob_cons rfl (ob_cons rfl (ob_cons rfl (ob_cons rfl (ob_cons rfl (ob_cons rfl (ob_cons rfl (ob_cons ?_ (ob_cons rfl (ob_cons rfl (ob_cons rfl (ob_cons rfl (ob_cons rfl (ob_cons rfl (ob_cons rfl (ob_cons rfl (ob_cons (fun _ => rfl) (ob_cons rfl (ob_cons (Nat.le_refl _) (ob_cons (.inl ⟨rfl, rfl⟩) (ob_cons rfl (ob_cons (Nat.le_refl _) (ob_cons (.inl ⟨rfl, rfl⟩) (ob_cons ?_ (ob_cons ?_ (ob_cons ?_ (ob_cons ?_ (ob_cons ?_ (ob_cons ?_ (ob_cons ?_ (ob_cons ?_ (ob_cons ?_ (ob_cons ?_ (ob_cons ?_ (ob_cons ?_ ob_nil))))))))))))))))))))))))))))))))))))) ⟨by show ii + 1 ≤ fsE K N; omega, hnx⟩ (by show fsE K N - (ii + 1) < fsE K N - ii; omega)
            · with_reducible assumption
            · with_reducible assumption
            · with_reducible assumption
            · with_reducible assumption
            · with_reducible assumption
            · with_reducible assumption
            · with_reducible assumption
            · with_reducible assumption
            · with_reducible assumption
            · with_reducible assumption
            · with_reducible assumption
            · with_reducible assumption
            · with_reducible assumption
          | true =>
            rw [b2] at hb
            have b3 : (!bpReach nb (avInt (g (0 + ii) 2))) = false := hb
            refine round_norm (s0 := fsU n g z0 z1 nb lk al X) (T := fun x : Nat × Int => fsT n g z0 z1 nb lk al X x.1 x.2) (i := (ii, fi)) (ii + 1, fi) (fsd_1 ..) (ob_cons rfl (ob_cons rfl (ob_cons rfl (ob_cons rfl (ob_cons rfl (ob_cons rfl (ob_cons rfl (ob_cons rfl (ob_cons rfl (ob_cons ?_ (ob_cons rfl (ob_cons rfl (ob_cons rfl (ob_cons rfl (ob_cons rfl (ob_cons rfl (ob_cons rfl (ob_cons rfl (ob_cons (fun _ => rfl) (ob_cons rfl (ob_cons (Nat.le_refl _) (ob_cons (.inl ⟨rfl, rfl⟩) (ob_cons rfl (ob_cons (Nat.le_refl _) (ob_cons (.inl ⟨rfl, rfl⟩) (ob_cons ?_ (ob_cons ?_ (ob_cons ?_ (ob_cons ?_ (ob_cons ?_ (ob_cons ?_ (ob_cons ?_ (ob_cons ?_ (ob_cons ?_ (ob_cons ?_ (ob_cons ?_ (ob_cons ?_ (ob_cons ?_ (ob_cons ?_ (ob_cons ?_ ob_nil)))))))))))))))))))))))))))))))))))))))) ⟨by show ii + 1 ≤ fsE K N; omega, hnx⟩ (by show fsE K N - (ii + 1) < fsE K N - ii; omega)
            · with_reducible assumption
            · exact b3
            · with_reducible assumption
            · with_reducible assumption
            · with_reducible assumption
            · with_reducible assumption
            · with_reducible assumption
            · with_reducible assumption
            · with_reducible assumption
            · with_reducible assumption
            · with_reducible assumption
            · with_reducible assumption
            · with_reducible assumption
            · with_reducible assumption
            · with_reducible assumption
            · with_reducible assumption
  · have hff : fi = fsF K N := by
      rw [hfi]; unfold fsN
      by_cases c : ii ≤ K
      · rw [if_pos c]; unfold fsF; rw [if_neg (by omega)]
      · exact if_neg c
    subst hff
    by_cases c1 : ii < n
    · have h1 : decide (Int.ofNat ii < Int.ofNat n) = true := decide_eq_true (by simp; omega)
      by_cases c2 : Int.ofNat ii < al
      · have h2 : decide (Int.ofNat ii < al) = true := decide_eq_true c2
        have h3 : decide (fsF K N < 0) = false := by
          have : K < N := by
            have c3 : ii < N := by rcases hN3 with e | e <;> (simp at c2 e; omega)
            omega
          unfold fsF; rw [if_pos this]; exact decide_eq_false (by simp)
        refine round_exit (s0 := fsU n g z0 z1 nb lk al X) (T := fun x : Nat × Int => fsT n g z0 z1 nb lk al X x.1 x.2) (i := (ii, fsF K N)) (fsz_1 ..) (by simp) (ob_cons rfl (ob_cons rfl (ob_cons rfl (ob_cons rfl (ob_cons rfl (ob_cons rfl (ob_cons rfl (ob_cons rfl (ob_cons rfl (ob_cons rfl (ob_cons rfl (ob_cons rfl (ob_cons rfl (ob_cons rfl (ob_cons (fun _ => rfl) (ob_cons rfl (ob_cons (Nat.le_refl _) (ob_cons (.inl ⟨rfl, rfl⟩) (ob_cons rfl (ob_cons (Nat.le_refl _) (ob_cons (.inl ⟨rfl, rfl⟩) (ob_cons ?_ (ob_cons ?_ (ob_cons ?_ ob_nil))))))))))))))))))))))))
        · with_reducible assumption
        · with_reducible assumption
        · with_reducible assumption
      · have h2 : decide (Int.ofNat ii < al) = false := decide_eq_false c2
        refine round_exit (s0 := fsU n g z0 z1 nb lk al X) (T := fun x : Nat × Int => fsT n g z0 z1 nb lk al X x.1 x.2) (i := (ii, fsF K N)) (fsy_1 ..) (by simp) (ob_cons rfl (ob_cons rfl (ob_cons rfl (ob_cons rfl (ob_cons rfl (ob_cons rfl (ob_cons rfl (ob_cons rfl (ob_cons rfl (ob_cons rfl (ob_cons rfl (ob_cons rfl (ob_cons rfl (ob_cons rfl (ob_cons (fun _ => rfl) (ob_cons rfl (ob_cons (Nat.le_refl _) (ob_cons (.inl ⟨rfl, rfl⟩) (ob_cons rfl (ob_cons (Nat.le_refl _) (ob_cons (.inl ⟨rfl, rfl⟩) (ob_cons ?_ (ob_cons ?_ ob_nil)))))))))))))))))))))))
        · with_reducible assumption
        · with_reducible assumption
    · have h1 : decide (Int.ofNat ii < Int.ofNat n) = false := decide_eq_false (by simp; omega)
      refine round_exit (s0 := fsU n g z0 z1 nb lk al X) (T := fun x : Nat × Int => fsT n g z0 z1 nb lk al X x.1 x.2) (i := (ii, fsF K N)) (fsx_1 ..) (by simp) (ob_cons rfl (ob_cons rfl (ob_cons rfl (ob_cons rfl (ob_cons rfl (ob_cons rfl (ob_cons rfl (ob_cons rfl (ob_cons rfl (ob_cons rfl (ob_cons rfl (ob_cons rfl (ob_cons rfl (ob_cons rfl (ob_cons (fun _ => rfl) (ob_cons rfl (ob_cons (Nat.le_refl _) (ob_cons (.inl ⟨rfl, rfl⟩) (ob_cons rfl (ob_cons (Nat.le_refl _) (ob_cons (.inl ⟨rfl, rfl⟩) (ob_cons ?_ ob_nil))))))))))))))))))))))
      · with_reducible assumption

end Go.Proofs.YtmlfmmnnbdlabaaDoor
