/-
  Words of the document: the inner loop.
-/
import Derived.Test.YtlpcdjhojfopjaaGreatDoorZRlDef
set_option linter.unusedSimpArgs false
set_option linter.unusedVariables false
namespace Go.Proofs.YtlpcdjhojfopjaaGreatDoor
open Go.Ev
theorem rwir_1 (n l : Nat) (g : Nat → Nat → AV) (st : Int) (L : LS) (io : Nat) (ii : Nat) : roundB ERw 2000 rwiL ((rwiU n l g st L io).hp) [] (rwiT n l g st L io ii) [Hint.node [(4, [Hint.b true])], Hint.b true] (rwiT n l g st L io (ii + 1)) =
 some (Ex.norm, [(0 : Nat) = 0,
 (0 : Nat) = 0,
 (0 : Nat) = 0,
 (rwl (dOf n g) io).length = (rwl (dOf n g) io).length,
 (none : Option Nat) = none,
 Int.ofNat io = Int.ofNat io,
 IntKind.i64.wrap (Int.ofNat ii + 1) = Int.ofNat (ii + 1),
 (0 : Nat) = 0,
 n = n,
 (none : Option Nat) = none,
 st = st,
 L.c = L.c,
 L.k = L.k,
 L.a = L.a,
 L.f = L.f,
 L.w = L.w,
 L.i = L.i,
 L.d = L.d,
 false = false,
 l ≤ l,
 g = g ∧ plainSh wSh = true ∨ ∀ (i : Nat), i < l → rowOb wSh 0 (g i) (g i),
 false = false,
 (rwl (dOf n g) io).length ≤ (rwl (dOf n g) io).length,
 wdF (wdAt (rwl (dOf n g) io)) = wdF (wdAt (rwl (dOf n g) io)) ∧ plainSh wSh = true ∨ ∀ (i : Nat), i < (rwl (dOf n g) io).length → rowOb wSh 0 (wdF (wdAt (rwl (dOf n g) io)) i) (wdF (wdAt (rwl (dOf n g) io)) i),
 ltB ((wdAt (rwl (dOf n g) io) (0 + ii)).1, (wdAt (rwl (dOf n g) io) (0 + ii)).2, (wdAt (rwl (dOf n g) io) (0 + ii)).3) (avInt (g (0 + io) 0), avInt (g (0 + io) 1), avInt (g (0 + io) 2)) = true,
 (0 + io).blt l = true,
 (io.blt n && decide (0 ≤ Int.ofNat io)) = true,
 (0 + ii).blt (rwl (dOf n g) io).length = true,
 (ii.blt (rwl (dOf n g) io).length && decide (0 ≤ Int.ofNat ii)) = true,
 decide (Int.ofNat ii < Int.ofNat (rwl (dOf n g) io).length) = true]) := by kernel_rfl
theorem rwir_2 (n l : Nat) (g : Nat → Nat → AV) (st : Int) (L : LS) (io : Nat) (ii : Nat) : roundB ERw 2000 rwiL ((rwiU n l g st L io).hp) [] (rwiT n l g st L io ii) [Hint.node [(4, [Hint.b true])], Hint.b false] (rwiX n l g st L io ii) =
 some (Ex.exit 2, [(0 : Nat) = 0,
 (0 : Nat) = 0,
 (0 : Nat) = 0,
 (rwl (dOf n g) io).length = (rwl (dOf n g) io).length,
 (none : Option Nat) = none,
 Int.ofNat io = Int.ofNat io,
 Int.ofNat ii = Int.ofNat ii,
 (0 : Nat) = 0,
 n = n,
 (none : Option Nat) = none,
 st = st,
 L.c = L.c,
 L.k = L.k,
 L.a = L.a,
 L.f = L.f,
 L.w = L.w,
 L.i = L.i,
 L.d = L.d,
 false = false,
 l ≤ l,
 g = g ∧ plainSh wSh = true ∨ ∀ (i : Nat), i < l → rowOb wSh 0 (g i) (g i),
 false = false,
 (rwl (dOf n g) io).length ≤ (rwl (dOf n g) io).length,
 wdF (wdAt (rwl (dOf n g) io)) = wdF (wdAt (rwl (dOf n g) io)) ∧ plainSh wSh = true ∨ ∀ (i : Nat), i < (rwl (dOf n g) io).length → rowOb wSh 0 (wdF (wdAt (rwl (dOf n g) io)) i) (wdF (wdAt (rwl (dOf n g) io)) i),
 ltB ((wdAt (rwl (dOf n g) io) (0 + ii)).1, (wdAt (rwl (dOf n g) io) (0 + ii)).2, (wdAt (rwl (dOf n g) io) (0 + ii)).3) (avInt (g (0 + io) 0), avInt (g (0 + io) 1), avInt (g (0 + io) 2)) = false,
 (0 + io).blt l = true,
 (io.blt n && decide (0 ≤ Int.ofNat io)) = true,
 (0 + ii).blt (rwl (dOf n g) io).length = true,
 (ii.blt (rwl (dOf n g) io).length && decide (0 ≤ Int.ofNat ii)) = true,
 decide (Int.ofNat ii < Int.ofNat (rwl (dOf n g) io).length) = true]) := by kernel_rfl
theorem rwir_3 (n l : Nat) (g : Nat → Nat → AV) (st : Int) (L : LS) (io : Nat) (ii : Nat) : roundB ERw 2000 rwiL ((rwiU n l g st L io).hp) [] (rwiT n l g st L io ii) [Hint.node [(4, [Hint.b false])]] (rwiX n l g st L io ii) =
 some (Ex.exit 2, [(0 : Nat) = 0,
 (0 : Nat) = 0,
 (0 : Nat) = 0,
 (rwl (dOf n g) io).length = (rwl (dOf n g) io).length,
 (none : Option Nat) = none,
 Int.ofNat io = Int.ofNat io,
 Int.ofNat ii = Int.ofNat ii,
 (0 : Nat) = 0,
 n = n,
 (none : Option Nat) = none,
 st = st,
 L.c = L.c,
 L.k = L.k,
 L.a = L.a,
 L.f = L.f,
 L.w = L.w,
 L.i = L.i,
 L.d = L.d,
 false = false,
 l ≤ l,
 g = g ∧ plainSh wSh = true ∨ ∀ (i : Nat), i < l → rowOb wSh 0 (g i) (g i),
 false = false,
 (rwl (dOf n g) io).length ≤ (rwl (dOf n g) io).length,
 wdF (wdAt (rwl (dOf n g) io)) = wdF (wdAt (rwl (dOf n g) io)) ∧ plainSh wSh = true ∨ ∀ (i : Nat), i < (rwl (dOf n g) io).length → rowOb wSh 0 (wdF (wdAt (rwl (dOf n g) io)) i) (wdF (wdAt (rwl (dOf n g) io)) i),
 decide (Int.ofNat ii < Int.ofNat (rwl (dOf n g) io).length) = false]) := by kernel_rfl
theorem rwii_1 (n l : Nat) (g : Nat → Nat → AV) (st : Int) (L : LS) (io : Nat) : castSt ((rwiU n l g st L io).hp) [] (rwiU n l g st L io) (rwiT n l g st L io 0) =
 some ([(0 : Nat) = 0,
 (0 : Nat) = 0,
 (0 : Nat) = 0,
 (rwl (dOf n g) io).length = (rwl (dOf n g) io).length,
 (none : Option Nat) = none,
 Int.ofNat io = Int.ofNat io,
 (0 : Int) = 0,
 (0 : Nat) = 0,
 n = n,
 (none : Option Nat) = none,
 st = st,
 L.c = L.c,
 L.k = L.k,
 L.a = L.a,
 L.f = L.f,
 L.w = L.w,
 L.i = L.i,
 L.d = L.d,
 false = false,
 l ≤ l,
 g = g ∧ plainSh wSh = true ∨ ∀ (i : Nat), i < l → rowOb wSh 0 (g i) (g i),
 false = false,
 (rwl (dOf n g) io).length ≤ (rwl (dOf n g) io).length,
 wdF (wdAt (rwl (dOf n g) io)) = wdF (wdAt (rwl (dOf n g) io)) ∧ plainSh wSh = true ∨ ∀ (i : Nat), i < (rwl (dOf n g) io).length → rowOb wSh 0 (wdF (wdAt (rwl (dOf n g) io)) i) (wdF (wdAt (rwl (dOf n g) io)) i)]) := by kernel_rfl
theorem rwi_lp (n l : Nat) (g : Nat → Nat → AV) (st : Int) (L : LS) (io : Nat) (hl : n ≤ l) (hm : n ≤ 100000) (hio : io < n) : rwiLP n l g st L io := by
  refine loop_rule ERw_ok (I := Nat) (fun i => rwiT n l g st L io i) (fun i => (posL (wdOf (g io)).key (rwl (dOf n g) io)) - i) (fun i => i ≤ (posL (wdOf (g io)).key (rwl (dOf n g) io))) ?_ (fun ii hi => ?_)
  ·
    refine ⟨0, [], _, Nat.zero_le _, rwii_1 .., (cj ⟨rfl, rfl, rfl, rfl, rfl, rfl, rfl, rfl, rfl, rfl, rfl, rfl, rfl, rfl, rfl, rfl, rfl, rfl, rfl, Nat.le_refl _, .inl ⟨rfl, rfl⟩, rfl, Nat.le_refl _, .inl ⟨rfl, rfl⟩, trivial⟩)⟩
  have hi : ii ≤ (posL (wdOf (g io)).key (rwl (dOf n g) io)) := hi
  have hlen := rwl_len (dOf n g) io
  have hps := posL_le (wdOf (g io)).key (rwl (dOf n g) io)
  have hlt : ∀ z, ltB ((wdAt (rwl (dOf n g) io) (0 + ii)).k, (wdAt (rwl (dOf n g) io) (0 + ii)).a, (wdAt (rwl (dOf n g) io) (0 + ii)).f) (avInt (g (0 + io) 0), avInt (g (0 + io) 1), avInt (g (0 + io) 2)) = z → ltB (wdAt (rwl (dOf n g) io) ii).key (wdOf (g io)).key = z := fun z h => by rw [Nat.zero_add, Nat.zero_add] at h; exact h
  cases h1 : (decide (Int.ofNat ii < Int.ofNat (rwl (dOf n g) io).length)) with
  | true =>
    have g1 := of_decide_eq_true h1
    try simp only [Int.ofNat_eq_natCast, ge_iff_le, gt_iff_lt, Int.not_lt, Int.not_le] at g1
    cases h2 : (ltB ((wdAt (rwl (dOf n g) io) (0 + ii)).1, (wdAt (rwl (dOf n g) io) (0 + ii)).2, (wdAt (rwl (dOf n g) io) (0 + ii)).3)   (avInt (g (0 + io) 0), avInt (g (0 + io) 1), avInt (g (0 + io) 2))) with
    | true =>
      refine round_norm (s0 := rwiU n l g st L io) (T := fun i => rwiT n l g st L io i) (i := ii) (ii + 1) (rwir_1 ..) (cj ⟨rfl, rfl, rfl, rfl, rfl, rfl, wrap_nat64 _ (by simp; omega) (by simp; omega), rfl, rfl, rfl, rfl, rfl, rfl, rfl, rfl, rfl, rfl, rfl, rfl, Nat.le_refl _, .inl ⟨rfl, rfl⟩, rfl, Nat.le_refl _, .inl ⟨rfl, rfl⟩, h2, (by (apply Nat.ble_eq_true_of_le; omega)), (by (try simp [Nat.blt_eq]); omega), (by (apply Nat.ble_eq_true_of_le; omega)), (by (try simp [Nat.blt_eq]); omega), h1, trivial⟩) (by show ii + 1 ≤ (posL (wdOf (g io)).key (rwl (dOf n g) io)); (first | omega | exact rw_lt (by omega) (by omega) (hlt true (by assumption)))) (by show (posL (wdOf (g io)).key (rwl (dOf n g) io)) - (ii + 1) < (posL (wdOf (g io)).key (rwl (dOf n g) io)) - ii; (have hQQ : ii + 1 ≤ (posL (wdOf (g io)).key (rwl (dOf n g) io)) := by (first | omega | exact rw_lt (by omega) (by omega) (hlt true (by assumption)))); omega)
    | false =>
      obtain rfl : (posL (wdOf (g io)).key (rwl (dOf n g) io)) = ii := by (first | omega | exact rw_ge (by omega) (by omega) (hlt false (by assumption)) | exact rw_end (by omega) (by omega))
      refine round_exit (s0 := rwiU n l g st L io) (T := fun i => rwiT n l g st L io i) (i := (posL (wdOf (g io)).key (rwl (dOf n g) io))) (rwir_2 ..) (by simp) (cj ⟨rfl, rfl, rfl, rfl, rfl, rfl, rfl, rfl, rfl, rfl, rfl, rfl, rfl, rfl, rfl, rfl, rfl, rfl, rfl, Nat.le_refl _, .inl ⟨rfl, rfl⟩, rfl, Nat.le_refl _, .inl ⟨rfl, rfl⟩, h2, (by (apply Nat.ble_eq_true_of_le; omega)), (by (try simp [Nat.blt_eq]); omega), (by (apply Nat.ble_eq_true_of_le; omega)), (by (try simp [Nat.blt_eq]); omega), h1, trivial⟩)
  | false =>
    have g1 := of_decide_eq_false h1
    try simp only [Int.ofNat_eq_natCast, ge_iff_le, gt_iff_lt, Int.not_lt, Int.not_le] at g1
    obtain rfl : (posL (wdOf (g io)).key (rwl (dOf n g) io)) = ii := by (first | omega | exact rw_ge (by omega) (by omega) (hlt false (by assumption)) | exact rw_end (by omega) (by omega))
    refine round_exit (s0 := rwiU n l g st L io) (T := fun i => rwiT n l g st L io i) (i := (posL (wdOf (g io)).key (rwl (dOf n g) io))) (rwir_3 ..) (by simp) (cj ⟨rfl, rfl, rfl, rfl, rfl, rfl, rfl, rfl, rfl, rfl, rfl, rfl, rfl, rfl, rfl, rfl, rfl, rfl, rfl, Nat.le_refl _, .inl ⟨rfl, rfl⟩, rfl, Nat.le_refl _, .inl ⟨rfl, rfl⟩, h1, trivial⟩)
end Go.Proofs.YtlpcdjhojfopjaaGreatDoor
