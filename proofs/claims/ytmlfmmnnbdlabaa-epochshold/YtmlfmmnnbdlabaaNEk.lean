/-
  EpochsHold: the look at all threads.
-/
import Derived.Test.YtmlfmmnnbdlabaaNEkDef
set_option linter.unusedSimpArgs false
set_option linter.unusedVariables false
namespace Go.Proofs.Ytmlfmmnnbdlabaa
open Go.Ev
theorem hkr_4 (m : Nat) (f : Nat → Nat → AV) (S : MS) (G : Nat → Nat → AV) (w : Int) (z : Nat) (ii : Nat) : roundB Ehd 2000 hkL ((hkU m f S G w z).hp) [] (hkT m f S G w z ii) [Hint.b true, Hint.b true, Hint.b false, Hint.b false, Hint.b true, Hint.b false] (hkT m f S G w z (ii + 1)) =
 some (Ex.norm, [(0 : Nat) = 0,
 m = m,
 (none : Option Nat) = none,
 (0 : Nat) = 0,
 (0 : Nat) = 0,
 (0 : Nat) = 0,
 (8 : Nat) = 8,
 some 8 = some 8,
 Int.ofNat z = Int.ofNat z,
 w = w,
 IntKind.i64.wrap (Int.ofNat ii + 1) = Int.ofNat (ii + 1),
 false = false,
 (8 : Nat) ≤ (8 : Nat),
 ∀ (i : Nat), i < 8 → rowV (CM.mk 1000 6703903964971298549787012499102923063739682910296196688861780721860882015036773488400937149083451713845015929093243025426876941405973284973216824503042048 []) hdSh 0 (G i) (G i),
 S.st = S.st,
 S.L.c = S.L.c,
 S.L.k = S.L.k,
 S.L.a = S.L.a,
 S.L.f = S.L.f,
 S.L.w = S.L.w,
 S.L.i = S.L.i,
 S.L.d = S.L.d,
 ∀ (k : List Int), S.M k = S.M k,
 true = true,
 m ≤ m,
 f = f ∧ plainSh [CK.int IntKind.u8] = true ∨ ∀ (i : Nat), i < m → rowOb [CK.int IntKind.u8] 0 (f i) (f i),
 decide (IntKind.u64.wrap (w - avInt (G (0 + ii) 1)) ≥ 2) = false,
 decide (w ≥ avInt (G (0 + ii) 1)) = true,
 (0 + ii).blt 8 = true,
 (ii.blt 8 && decide (0 ≤ Int.ofNat ii)) = true,
 decide (w > IntKind.u64.wrap (avInt (G (0 + ii) 1) + 1)) = false,
 (0 + ii).blt 8 = true,
 (ii.blt 8 && decide (0 ≤ Int.ofNat ii)) = true,
 decide (w < avInt (G (0 + ii) 1)) = false,
 (0 + ii).blt 8 = true,
 (ii.blt 8 && decide (0 ≤ Int.ofNat ii)) = true,
 avBool (G (0 + ii) 0) = true,
 (0 + ii).blt 8 = true,
 (ii.blt 8 && decide (0 ≤ Int.ofNat ii)) = true,
 decide (Int.ofNat ii < 8) = true]) := by kernel_rfl
theorem hkr_5 (m : Nat) (f : Nat → Nat → AV) (S : MS) (G : Nat → Nat → AV) (w : Int) (z : Nat) (ii : Nat) : roundB Ehd 2000 hkL ((hkU m f S G w z).hp) [] (hkT m f S G w z ii) [Hint.b true, Hint.b false] (hkT m f S G w z (ii + 1)) =
 some (Ex.norm, [(0 : Nat) = 0,
 m = m,
 (none : Option Nat) = none,
 (0 : Nat) = 0,
 (0 : Nat) = 0,
 (0 : Nat) = 0,
 (8 : Nat) = 8,
 some 8 = some 8,
 Int.ofNat z = Int.ofNat z,
 w = w,
 IntKind.i64.wrap (Int.ofNat ii + 1) = Int.ofNat (ii + 1),
 false = false,
 (8 : Nat) ≤ (8 : Nat),
 ∀ (i : Nat), i < 8 → rowV (CM.mk 1000 6703903964971298549787012499102923063739682910296196688861780721860882015036773488400937149083451713845015929093243025426876941405973284973216824503042048 []) hdSh 0 (G i) (G i),
 S.st = S.st,
 S.L.c = S.L.c,
 S.L.k = S.L.k,
 S.L.a = S.L.a,
 S.L.f = S.L.f,
 S.L.w = S.L.w,
 S.L.i = S.L.i,
 S.L.d = S.L.d,
 ∀ (k : List Int), S.M k = S.M k,
 true = true,
 m ≤ m,
 f = f ∧ plainSh [CK.int IntKind.u8] = true ∨ ∀ (i : Nat), i < m → rowOb [CK.int IntKind.u8] 0 (f i) (f i),
 avBool (G (0 + ii) 0) = false,
 (0 + ii).blt 8 = true,
 (ii.blt 8 && decide (0 ≤ Int.ofNat ii)) = true,
 decide (Int.ofNat ii < 8) = true]) := by kernel_rfl
theorem hkr_6 (m : Nat) (f : Nat → Nat → AV) (S : MS) (G : Nat → Nat → AV) (w : Int) (z : Nat) (ii : Nat) : roundB Ehd 2000 hkL ((hkU m f S G w z).hp) [] (hkT m f S G w z ii) [Hint.b false] (hkX m f S G w z ii) =
 some (Ex.exit 2, [(0 : Nat) = 0,
 m = m,
 (none : Option Nat) = none,
 (0 : Nat) = 0,
 (0 : Nat) = 0,
 (0 : Nat) = 0,
 (8 : Nat) = 8,
 some 8 = some 8,
 Int.ofNat z = Int.ofNat z,
 w = w,
 false = false,
 (8 : Nat) ≤ (8 : Nat),
 ∀ (i : Nat), i < 8 → rowV (CM.mk 1000 6703903964971298549787012499102923063739682910296196688861780721860882015036773488400937149083451713845015929093243025426876941405973284973216824503042048 []) hdSh 0 (G i) (G i),
 S.st = S.st,
 S.L.c = S.L.c,
 S.L.k = S.L.k,
 S.L.a = S.L.a,
 S.L.f = S.L.f,
 S.L.w = S.L.w,
 S.L.i = S.L.i,
 S.L.d = S.L.d,
 ∀ (k : List Int), S.M k = S.M k,
 true = true,
 m ≤ m,
 f = f ∧ plainSh [CK.int IntKind.u8] = true ∨ ∀ (i : Nat), i < m → rowOb [CK.int IntKind.u8] 0 (f i) (f i),
 decide (Int.ofNat ii < 8) = false]) := by kernel_rfl
theorem hki_1 (m : Nat) (f : Nat → Nat → AV) (S : MS) (G : Nat → Nat → AV) (w : Int) (z : Nat) : castSt ((hkU m f S G w z).hp) [] (hkU m f S G w z) (hkT m f S G w z 0) =
 some ([(0 : Nat) = 0,
 m = m,
 (none : Option Nat) = none,
 (0 : Nat) = 0,
 (0 : Nat) = 0,
 (0 : Nat) = 0,
 (8 : Nat) = 8,
 some 8 = some 8,
 Int.ofNat z = Int.ofNat z,
 w = w,
 (0 : Int) = 0,
 false = false,
 (8 : Nat) ≤ (8 : Nat),
 ∀ (i : Nat), i < 8 → rowV (CM.mk 1000 6703903964971298549787012499102923063739682910296196688861780721860882015036773488400937149083451713845015929093243025426876941405973284973216824503042048 []) hdSh 0 (G i) (G i),
 S.st = S.st,
 S.L.c = S.L.c,
 S.L.k = S.L.k,
 S.L.a = S.L.a,
 S.L.f = S.L.f,
 S.L.w = S.L.w,
 S.L.i = S.L.i,
 S.L.d = S.L.d,
 ∀ (k : List Int), S.M k = S.M k,
 true = true,
 m ≤ m,
 f = f ∧ plainSh [CK.int IntKind.u8] = true ∨ ∀ (i : Nat), i < m → rowOb [CK.int IntKind.u8] 0 (f i) (f i)]) := by kernel_rfl
theorem hk_lp (m : Nat) (f : Nat → Nat → AV) (S : MS) (G : Nat → Nat → AV) (w : Int) (z : Nat) (hF : ∀ k, k < 8 → avBool (G (0 + k) 0) = true → 0 ≤ avInt (G (0 + k) 1) ∧ avInt (G (0 + k) 1) ≤ w ∧ w ≤ avInt (G (0 + k) 1) + 1) (hw : 0 ≤ w ∧ w < 9223372036854775808) (hV : ∀ (i : Nat), i < 8 → rowV (CM.mk 1000 fam0 []) hdSh 0 (G i) (G i)) : hkLP m f S G w z := by
  refine loop_rule Ehd_ok (I := Nat) (fun i => hkT m f S G w z i) (fun i => 8 - i) (fun i => i ≤ 8) ?_ (fun ii hi => ?_)
  ·
    refine ⟨0, [], _, Nat.zero_le _, hki_1 .., (cj ⟨rfl, rfl, rfl, rfl, rfl, rfl, rfl, rfl, rfl, rfl, rfl, rfl, Nat.le_refl _, hV, rfl, rfl, rfl, rfl, rfl, rfl, rfl, rfl, (fun _ => rfl), rfl, Nat.le_refl _, .inl ⟨rfl, rfl⟩, trivial⟩)⟩
  have hi : ii ≤ 8 := hi
  have hq := fun h1 h2 => (let q := hF ii h1 h2; hd_t q.1 q.2.1 q.2.2 hw.2)
  cases h1 : (decide (Int.ofNat ii < 8)) with
  | true =>
    have g1 := of_decide_eq_true h1
    try simp only [Int.ofNat_eq_natCast, ge_iff_le, gt_iff_lt, Int.not_lt, Int.not_le] at g1
    cases h2 : (avBool (G (0 + ii) 0)) with
    | true =>
      refine round_norm (s0 := hkU m f S G w z) (T := fun i => hkT m f S G w z i) (i := ii) (ii + 1) (hkr_4 ..) (cj ⟨rfl, rfl, rfl, rfl, rfl, rfl, rfl, rfl, rfl, rfl, wrap_nat64 _ (by simp; omega) (by simp; omega), rfl, Nat.le_refl _, hV, rfl, rfl, rfl, rfl, rfl, rfl, rfl, rfl, (fun _ => rfl), rfl, Nat.le_refl _, .inl ⟨rfl, rfl⟩, (hq (by omega) h2).2.2.2, (hq (by omega) h2).2.2.1, (by (simp; omega)), (by (simp; omega)), (hq (by omega) h2).2.1, (by (simp; omega)), (by (simp; omega)), (hq (by omega) h2).1, (by (simp; omega)), (by (simp; omega)), h2, (by (simp; omega)), (by (simp; omega)), h1, trivial⟩) (by show ii + 1 ≤ 8; omega) (by show 8 - (ii + 1) < 8 - ii; omega)
    | false =>
      refine round_norm (s0 := hkU m f S G w z) (T := fun i => hkT m f S G w z i) (i := ii) (ii + 1) (hkr_5 ..) (cj ⟨rfl, rfl, rfl, rfl, rfl, rfl, rfl, rfl, rfl, rfl, wrap_nat64 _ (by simp; omega) (by simp; omega), rfl, Nat.le_refl _, hV, rfl, rfl, rfl, rfl, rfl, rfl, rfl, rfl, (fun _ => rfl), rfl, Nat.le_refl _, .inl ⟨rfl, rfl⟩, h2, (by (simp; omega)), (by (simp; omega)), h1, trivial⟩) (by show ii + 1 ≤ 8; omega) (by show 8 - (ii + 1) < 8 - ii; omega)
  | false =>
    have g1 := of_decide_eq_false h1
    try simp only [Int.ofNat_eq_natCast, ge_iff_le, gt_iff_lt, Int.not_lt, Int.not_le] at g1
    obtain rfl : 8 = ii := by omega
    refine round_exit (s0 := hkU m f S G w z) (T := fun i => hkT m f S G w z i) (i := 8) (hkr_6 ..) (by simp) (cj ⟨rfl, rfl, rfl, rfl, rfl, rfl, rfl, rfl, rfl, rfl, rfl, Nat.le_refl _, hV, rfl, rfl, rfl, rfl, rfl, rfl, rfl, rfl, (fun _ => rfl), rfl, Nat.le_refl _, .inl ⟨rfl, rfl⟩, h1, trivial⟩)
end Go.Proofs.Ytmlfmmnnbdlabaa
