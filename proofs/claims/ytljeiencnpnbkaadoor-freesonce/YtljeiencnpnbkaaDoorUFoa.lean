/-
  FreesOnce: apart, its inner loop.
-/
import Derived.Test.YtljeiencnpnbkaaDoorUFoaDef
set_option linter.unusedSimpArgs false
set_option linter.unusedVariables false
namespace Go.Proofs.YtljeiencnpnbkaaDoor
open Go.Ev
theorem fapar_1 (n : Nat) (a : Nat) (of : Nat) (len : Nat) (E : Nat → Int) (B : Nat → Bool) (G : Nat → Nat → AV) (m : Nat) (f : Nat → Nat → AV) (S : MS) (ii : Nat) : roundB EFo 2000 fapaL ((fapaU n a of len E B G m f S).hp) [] (fapaT n a of len E B G m f S ii) [Hint.a (AV.ss 1 900 of len none), Hint.b true, Hint.a (AV.ss 1 900 of len none), Hint.b false, Hint.b false, Hint.b false] (fapaT n a of len E B G m f S (ii + 1)) =
 some (Ex.norm, [(0 : Nat) = 0,
 (6 : Nat) = 6,
 some 6 = some 6,
 Int.ofNat n = Int.ofNat n,
 (0 : Nat) = 0,
 n = n,
 some n = some n,
 Int.ofNat a = Int.ofNat a,
 IntKind.i64.wrap (Int.ofNat ii + 1) = Int.ofNat (ii + 1),
 false = false,
 of + len ≤ of + len,
 LF E = LF E ∧ plainSh [CK.int IntKind.i64] = true ∨ ∀ (i : Nat), i < of + len → rowOb [CK.int IntKind.i64] 0 (LF E i) (LF E i),
 false = false,
 (6 : Nat) ≤ (6 : Nat),
 ∀ (i : Nat), i < 6 → rowV (CM.mk 1000 6703903964971298549787012499102923063739682910296196688861780721860882015036773488400937149083451713845015929093243025426876941405973284973216824503042048 []) [CK.val, CK.val, CK.val] 0 (G i) (G i),
 false = false,
 n ≤ n,
 BF (seenB E of B (ii + 1)) = upd (BF (seenB E of B ii)) (0 + (E (of + ii)).toNat) 0 (ofVal (Value.bool true)).cells ∧ plainSh [CK.bool] = true ∨ ∀ (i : Nat), i < n → rowOb [CK.bool] 0 (upd (BF (seenB E of B ii)) (0 + (E (of + ii)).toNat) 0 (ofVal (Value.bool true)).cells i) (BF (seenB E of B (ii + 1)) i),
 true = true,
 (1 : Nat) ≤ (1 : Nat),
 tabF tab = tabF tab ∧ plainSh (List.map kindOfV tab) = true ∨ ∀ (i : Nat), i < 1 → rowOb (List.map kindOfV tab) 0 (tabF tab i) (tabF tab i),
 S.st = S.st,
 S.L.c = S.L.c,
 S.L.k = S.L.k,
 S.L.a = S.L.a,
 S.L.f = S.L.f,
 S.L.w = S.L.w,
 S.L.i = S.L.i,
 S.L.d = S.L.d,
 ∀ (k : List Int), S.M k = S.M k,
 true = true,
 m ≤ m,
 f = f ∧ plainSh [CK.int IntKind.u8] = true ∨ ∀ (i : Nat), i < m → rowOb [CK.int IntKind.u8] 0 (f i) (f i),
 (0 + (E (of + ii)).toNat).blt n = true,
 ((E (of + ii)).toNat.blt n && decide (0 ≤ E (of + ii))) = true,
 seenB E of B ii (0 + (E (of + ii)).toNat) = false,
 (0 + (E (of + ii)).toNat).blt n = true,
 ((E (of + ii)).toNat.blt n && decide (0 ≤ E (of + ii))) = true,
 decide (E (of + ii) ≥ Int.ofNat n) = false,
 decide (E (of + ii) < 0) = false,
 (of + ii).blt (of + len) = true,
 (ii.blt len && decide (0 ≤ Int.ofNat ii)) = true,
 G (0 + a) 0 = AV.ss 1 900 of len none,
 (0 + a).blt 6 = true,
 (a.blt 6 && decide (0 ≤ Int.ofNat a)) = true,
 decide (Int.ofNat ii < Int.ofNat len) = true,
 G (0 + a) 0 = AV.ss 1 900 of len none,
 (0 + a).blt 6 = true,
 (a.blt 6 && decide (0 ≤ Int.ofNat a)) = true]) := by kernel_rfl
theorem fapar_2 (n : Nat) (a : Nat) (of : Nat) (len : Nat) (E : Nat → Int) (B : Nat → Bool) (G : Nat → Nat → AV) (m : Nat) (f : Nat → Nat → AV) (S : MS) (ii : Nat) : roundB EFo 2000 fapaL ((fapaU n a of len E B G m f S).hp) [] (fapaT n a of len E B G m f S ii) [Hint.a (AV.ss 1 900 of len none), Hint.b false] (fapaX n a of len E B G m f S ii) =
 some (Ex.exit 2, [(0 : Nat) = 0,
 (6 : Nat) = 6,
 some 6 = some 6,
 Int.ofNat n = Int.ofNat n,
 (0 : Nat) = 0,
 n = n,
 some n = some n,
 Int.ofNat a = Int.ofNat a,
 false = false,
 of + len ≤ of + len,
 LF E = LF E ∧ plainSh [CK.int IntKind.i64] = true ∨ ∀ (i : Nat), i < of + len → rowOb [CK.int IntKind.i64] 0 (LF E i) (LF E i),
 false = false,
 (6 : Nat) ≤ (6 : Nat),
 ∀ (i : Nat), i < 6 → rowV (CM.mk 1000 6703903964971298549787012499102923063739682910296196688861780721860882015036773488400937149083451713845015929093243025426876941405973284973216824503042048 []) [CK.val, CK.val, CK.val] 0 (G i) (G i),
 false = false,
 n ≤ n,
 BF (seenB E of B ii) = BF (seenB E of B ii) ∧ plainSh [CK.bool] = true ∨ ∀ (i : Nat), i < n → rowOb [CK.bool] 0 (BF (seenB E of B ii) i) (BF (seenB E of B ii) i),
 true = true,
 (1 : Nat) ≤ (1 : Nat),
 tabF tab = tabF tab ∧ plainSh (List.map kindOfV tab) = true ∨ ∀ (i : Nat), i < 1 → rowOb (List.map kindOfV tab) 0 (tabF tab i) (tabF tab i),
 S.st = S.st,
 S.L.c = S.L.c,
 S.L.k = S.L.k,
 S.L.a = S.L.a,
 S.L.f = S.L.f,
 S.L.w = S.L.w,
 S.L.i = S.L.i,
 S.L.d = S.L.d,
 ∀ (k : List Int), S.M k = S.M k,
 true = true,
 m ≤ m,
 f = f ∧ plainSh [CK.int IntKind.u8] = true ∨ ∀ (i : Nat), i < m → rowOb [CK.int IntKind.u8] 0 (f i) (f i),
 decide (Int.ofNat ii < Int.ofNat len) = false,
 G (0 + a) 0 = AV.ss 1 900 of len none,
 (0 + a).blt 6 = true,
 (a.blt 6 && decide (0 ≤ Int.ofNat a)) = true]) := by kernel_rfl
theorem fapai_1 (n : Nat) (a : Nat) (of : Nat) (len : Nat) (E : Nat → Int) (B : Nat → Bool) (G : Nat → Nat → AV) (m : Nat) (f : Nat → Nat → AV) (S : MS) : castSt ((fapaU n a of len E B G m f S).hp) [] (fapaU n a of len E B G m f S) (fapaT n a of len E B G m f S 0) =
 some ([(0 : Nat) = 0,
 (6 : Nat) = 6,
 some 6 = some 6,
 Int.ofNat n = Int.ofNat n,
 (0 : Nat) = 0,
 n = n,
 some n = some n,
 Int.ofNat a = Int.ofNat a,
 (0 : Int) = 0,
 false = false,
 of + len ≤ of + len,
 LF E = LF E ∧ plainSh [CK.int IntKind.i64] = true ∨ ∀ (i : Nat), i < of + len → rowOb [CK.int IntKind.i64] 0 (LF E i) (LF E i),
 false = false,
 (6 : Nat) ≤ (6 : Nat),
 ∀ (i : Nat), i < 6 → rowV (CM.mk 1000 6703903964971298549787012499102923063739682910296196688861780721860882015036773488400937149083451713845015929093243025426876941405973284973216824503042048 []) [CK.val, CK.val, CK.val] 0 (G i) (G i),
 false = false,
 n ≤ n,
 BF (seenB E of B 0) = BF (seenB E of B 0) ∧ plainSh [CK.bool] = true ∨ ∀ (i : Nat), i < n → rowOb [CK.bool] 0 (BF (seenB E of B 0) i) (BF (seenB E of B 0) i),
 true = true,
 (1 : Nat) ≤ (1 : Nat),
 tabF tab = tabF tab ∧ plainSh (List.map kindOfV tab) = true ∨ ∀ (i : Nat), i < 1 → rowOb (List.map kindOfV tab) 0 (tabF tab i) (tabF tab i),
 S.st = S.st,
 S.L.c = S.L.c,
 S.L.k = S.L.k,
 S.L.a = S.L.a,
 S.L.f = S.L.f,
 S.L.w = S.L.w,
 S.L.i = S.L.i,
 S.L.d = S.L.d,
 ∀ (k : List Int), S.M k = S.M k,
 true = true,
 m ≤ m,
 f = f ∧ plainSh [CK.int IntKind.u8] = true ∨ ∀ (i : Nat), i < m → rowOb [CK.int IntKind.u8] 0 (f i) (f i)]) := by kernel_rfl
theorem fapa_lp (n : Nat) (a : Nat) (of : Nat) (len : Nat) (E : Nat → Int) (B : Nat → Bool) (G : Nat → Nat → AV) (m : Nat) (f : Nat → Nat → AV) (S : MS) (hn : n ≤ 60) (hi6 : a < 6) (hle : len ≤ 1000) (hV : ∀ (i : Nat), i < 6 → rowV (CM.mk 1000 fam0 []) [.val, .val, .val] 0 (G i) (G i)) (hG : G (0 + a) 0 = .ss 1 900 of len none) (hE : ∀ k, k < len → 0 ≤ E (of + k) ∧ E (of + k) < n ∧ seenB E of B k (E (of + k)).toNat = false) : fapaLP n a of len E B G m f S := by
  refine loop_rule EFo_ok (I := Nat) (fun i => fapaT n a of len E B G m f S i) (fun i => len - i) (fun i => i ≤ len) ?_ (fun ii hi => ?_)
  ·
    refine ⟨0, [], _, Nat.zero_le _, fapai_1 .., (cj ⟨rfl, rfl, rfl, rfl, rfl, rfl, rfl, rfl, rfl, rfl, Nat.le_refl _, .inl ⟨rfl, rfl⟩, rfl, Nat.le_refl _, hV, rfl, Nat.le_refl _, .inl ⟨rfl, rfl⟩, rfl, Nat.le_refl _, .inl ⟨rfl, rfl⟩, rfl, rfl, rfl, rfl, rfl, rfl, rfl, rfl, (fun _ => rfl), rfl, Nat.le_refl _, .inl ⟨rfl, rfl⟩, trivial⟩)⟩
  have hi : ii ≤ len := hi
  have hG0 := hG
  have hz0 : ii < len → decide (E (of + ii) < 0) = false := fun h => decide_eq_false (by have := (hE ii h).1; omega)
  have hz1 : ii < len → decide (E (of + ii) ≥ Int.ofNat n) = false := fun h => decide_eq_false (by have := (hE ii h).2.1; simp; omega)
  have hz2 : ii < len → seenB E of B ii (0 + (E (of + ii)).toNat) = false := fun h => by rw [Nat.zero_add]; exact (hE ii h).2.2
  have hb1 : ii < len → (0 + (E (of + ii)).toNat).blt n = true := fun h => by rw [Nat.zero_add]; have := hE ii h; simp [Nat.blt_eq]; omega
  have hb2 : ii < len → ((E (of + ii)).toNat.blt n && decide (0 ≤ E (of + ii))) = true := fun h => by rw [Bool.and_eq_true]; have := hE ii h; exact ⟨by simp [Nat.blt_eq]; omega, decide_eq_true this.1⟩
  have hb3 : (0 + (Int.ofNat a).toNat).blt 6 = true := by simp [Nat.blt_eq]; omega
  have hb4 : ((Int.ofNat a).toNat.blt 6 && decide (0 ≤ Int.ofNat a)) = true := by rw [Bool.and_eq_true]; exact ⟨by simp [Nat.blt_eq]; omega, decide_eq_true (by simp)⟩
  cases h1 : (decide (Int.ofNat ii < Int.ofNat len)) with
  | true =>
    have g1 := of_decide_eq_true h1
    try simp only [Int.ofNat_eq_natCast, ge_iff_le, gt_iff_lt, Int.not_lt, Int.not_le] at g1
    refine round_norm (s0 := fapaU n a of len E B G m f S) (T := fun i => fapaT n a of len E B G m f S i) (i := ii) (ii + 1) (fapar_1 ..) (cj ⟨rfl, rfl, rfl, rfl, rfl, rfl, rfl, rfl, wrap_nat64 _ (by simp; omega) (by simp; omega), rfl, Nat.le_refl _, .inl ⟨rfl, rfl⟩, rfl, Nat.le_refl _, hV, rfl, Nat.le_refl _, .inr (seen_rows (Nat.zero_add _)), rfl, Nat.le_refl _, .inl ⟨rfl, rfl⟩, rfl, rfl, rfl, rfl, rfl, rfl, rfl, rfl, (fun _ => rfl), rfl, Nat.le_refl _, .inl ⟨rfl, rfl⟩, hb1 (by omega), hb2 (by omega), hz2 (by omega), hb1 (by omega), hb2 (by omega), hz1 (by omega), hz0 (by omega), (by (apply Nat.ble_eq_true_of_le; omega)), (by (try simp [Nat.blt_eq]); omega), (by with_reducible assumption), hb3, hb4, h1, (by with_reducible assumption), hb3, hb4, trivial⟩) (by show ii + 1 ≤ len; omega) (by show len - (ii + 1) < len - ii; omega)
  | false =>
    have g1 := of_decide_eq_false h1
    try simp only [Int.ofNat_eq_natCast, ge_iff_le, gt_iff_lt, Int.not_lt, Int.not_le] at g1
    obtain rfl : len = ii := by omega
    refine round_exit (s0 := fapaU n a of len E B G m f S) (T := fun i => fapaT n a of len E B G m f S i) (i := len) (fapar_2 ..) (by simp) (cj ⟨rfl, rfl, rfl, rfl, rfl, rfl, rfl, rfl, rfl, Nat.le_refl _, .inl ⟨rfl, rfl⟩, rfl, Nat.le_refl _, hV, rfl, Nat.le_refl _, .inl ⟨rfl, rfl⟩, rfl, Nat.le_refl _, .inl ⟨rfl, rfl⟩, rfl, rfl, rfl, rfl, rfl, rfl, rfl, rfl, (fun _ => rfl), rfl, Nat.le_refl _, .inl ⟨rfl, rfl⟩, h1, (by with_reducible assumption), hb3, hb4, trivial⟩)
theorem fapbr_1 (n : Nat) (a : Nat) (of : Nat) (len : Nat) (E : Nat → Int) (B : Nat → Bool) (G : Nat → Nat → AV) (m : Nat) (f : Nat → Nat → AV) (S : MS) (o : PO) (ii : Nat) : roundB EFo 2000 fapbL ((fapbU n a of len E B G m f S o).hp) [] (fapbT n a of len E B G m f S o ii) [Hint.a (AV.ss 1 900 of len none), Hint.b true, Hint.a (AV.ss 1 900 of len none), Hint.b false, Hint.b false, Hint.b false] (fapbT n a of len E B G m f S o (ii + 1)) =
 some (Ex.norm, [(0 : Nat) = 0,
 (6 : Nat) = 6,
 some 6 = some 6,
 Int.ofNat n = Int.ofNat n,
 (0 : Nat) = 0,
 n = n,
 some n = some n,
 Int.ofNat a = Int.ofNat a,
 IntKind.i64.wrap (Int.ofNat ii + 1) = Int.ofNat (ii + 1),
 false = false,
 of + len ≤ of + len,
 LF E = LF E ∧ plainSh [CK.int IntKind.i64] = true ∨ ∀ (i : Nat), i < of + len → rowOb [CK.int IntKind.i64] 0 (LF E i) (LF E i),
 o.ln = o.ln,
 o.h = o.h,
 o.nx = o.nx,
 o.sl = o.sl,
 o.ok = o.ok,
 false = false,
 (6 : Nat) ≤ (6 : Nat),
 ∀ (i : Nat), i < 6 → rowV (CM.mk 1000 6703903964971298549787012499102923063739682910296196688861780721860882015036773488400937149083451713845015929093243025426876941405973284973216824503042048 []) [CK.val, CK.val, CK.val] 0 (G i) (G i),
 false = false,
 n ≤ n,
 BF (seenB E of B (ii + 1)) = upd (BF (seenB E of B ii)) (0 + (E (of + ii)).toNat) 0 (ofVal (Value.bool true)).cells ∧ plainSh [CK.bool] = true ∨ ∀ (i : Nat), i < n → rowOb [CK.bool] 0 (upd (BF (seenB E of B ii)) (0 + (E (of + ii)).toNat) 0 (ofVal (Value.bool true)).cells i) (BF (seenB E of B (ii + 1)) i),
 true = true,
 (1 : Nat) ≤ (1 : Nat),
 tabF tab = tabF tab ∧ plainSh (List.map kindOfV tab) = true ∨ ∀ (i : Nat), i < 1 → rowOb (List.map kindOfV tab) 0 (tabF tab i) (tabF tab i),
 S.st = S.st,
 S.L.c = S.L.c,
 S.L.k = S.L.k,
 S.L.a = S.L.a,
 S.L.f = S.L.f,
 S.L.w = S.L.w,
 S.L.i = S.L.i,
 S.L.d = S.L.d,
 ∀ (k : List Int), S.M k = S.M k,
 true = true,
 m ≤ m,
 f = f ∧ plainSh [CK.int IntKind.u8] = true ∨ ∀ (i : Nat), i < m → rowOb [CK.int IntKind.u8] 0 (f i) (f i),
 (0 + (E (of + ii)).toNat).blt n = true,
 ((E (of + ii)).toNat.blt n && decide (0 ≤ E (of + ii))) = true,
 seenB E of B ii (0 + (E (of + ii)).toNat) = false,
 (0 + (E (of + ii)).toNat).blt n = true,
 ((E (of + ii)).toNat.blt n && decide (0 ≤ E (of + ii))) = true,
 decide (E (of + ii) ≥ Int.ofNat n) = false,
 decide (E (of + ii) < 0) = false,
 (of + ii).blt (of + len) = true,
 (ii.blt len && decide (0 ≤ Int.ofNat ii)) = true,
 G (0 + a) 0 = AV.ss 1 900 of len none,
 (0 + a).blt 6 = true,
 (a.blt 6 && decide (0 ≤ Int.ofNat a)) = true,
 decide (Int.ofNat ii < Int.ofNat len) = true,
 G (0 + a) 0 = AV.ss 1 900 of len none,
 (0 + a).blt 6 = true,
 (a.blt 6 && decide (0 ≤ Int.ofNat a)) = true]) := by kernel_rfl
theorem fapbr_2 (n : Nat) (a : Nat) (of : Nat) (len : Nat) (E : Nat → Int) (B : Nat → Bool) (G : Nat → Nat → AV) (m : Nat) (f : Nat → Nat → AV) (S : MS) (o : PO) (ii : Nat) : roundB EFo 2000 fapbL ((fapbU n a of len E B G m f S o).hp) [] (fapbT n a of len E B G m f S o ii) [Hint.a (AV.ss 1 900 of len none), Hint.b false] (fapbX n a of len E B G m f S o ii) =
 some (Ex.exit 2, [(0 : Nat) = 0,
 (6 : Nat) = 6,
 some 6 = some 6,
 Int.ofNat n = Int.ofNat n,
 (0 : Nat) = 0,
 n = n,
 some n = some n,
 Int.ofNat a = Int.ofNat a,
 false = false,
 of + len ≤ of + len,
 LF E = LF E ∧ plainSh [CK.int IntKind.i64] = true ∨ ∀ (i : Nat), i < of + len → rowOb [CK.int IntKind.i64] 0 (LF E i) (LF E i),
 o.ln = o.ln,
 o.h = o.h,
 o.nx = o.nx,
 o.sl = o.sl,
 o.ok = o.ok,
 false = false,
 (6 : Nat) ≤ (6 : Nat),
 ∀ (i : Nat), i < 6 → rowV (CM.mk 1000 6703903964971298549787012499102923063739682910296196688861780721860882015036773488400937149083451713845015929093243025426876941405973284973216824503042048 []) [CK.val, CK.val, CK.val] 0 (G i) (G i),
 false = false,
 n ≤ n,
 BF (seenB E of B ii) = BF (seenB E of B ii) ∧ plainSh [CK.bool] = true ∨ ∀ (i : Nat), i < n → rowOb [CK.bool] 0 (BF (seenB E of B ii) i) (BF (seenB E of B ii) i),
 true = true,
 (1 : Nat) ≤ (1 : Nat),
 tabF tab = tabF tab ∧ plainSh (List.map kindOfV tab) = true ∨ ∀ (i : Nat), i < 1 → rowOb (List.map kindOfV tab) 0 (tabF tab i) (tabF tab i),
 S.st = S.st,
 S.L.c = S.L.c,
 S.L.k = S.L.k,
 S.L.a = S.L.a,
 S.L.f = S.L.f,
 S.L.w = S.L.w,
 S.L.i = S.L.i,
 S.L.d = S.L.d,
 ∀ (k : List Int), S.M k = S.M k,
 true = true,
 m ≤ m,
 f = f ∧ plainSh [CK.int IntKind.u8] = true ∨ ∀ (i : Nat), i < m → rowOb [CK.int IntKind.u8] 0 (f i) (f i),
 decide (Int.ofNat ii < Int.ofNat len) = false,
 G (0 + a) 0 = AV.ss 1 900 of len none,
 (0 + a).blt 6 = true,
 (a.blt 6 && decide (0 ≤ Int.ofNat a)) = true]) := by kernel_rfl
theorem fapbi_1 (n : Nat) (a : Nat) (of : Nat) (len : Nat) (E : Nat → Int) (B : Nat → Bool) (G : Nat → Nat → AV) (m : Nat) (f : Nat → Nat → AV) (S : MS) (o : PO) : castSt ((fapbU n a of len E B G m f S o).hp) [] (fapbU n a of len E B G m f S o) (fapbT n a of len E B G m f S o 0) =
 some ([(0 : Nat) = 0,
 (6 : Nat) = 6,
 some 6 = some 6,
 Int.ofNat n = Int.ofNat n,
 (0 : Nat) = 0,
 n = n,
 some n = some n,
 Int.ofNat a = Int.ofNat a,
 (0 : Int) = 0,
 false = false,
 of + len ≤ of + len,
 LF E = LF E ∧ plainSh [CK.int IntKind.i64] = true ∨ ∀ (i : Nat), i < of + len → rowOb [CK.int IntKind.i64] 0 (LF E i) (LF E i),
 o.ln = o.ln,
 o.h = o.h,
 o.nx = o.nx,
 o.sl = o.sl,
 o.ok = o.ok,
 false = false,
 (6 : Nat) ≤ (6 : Nat),
 ∀ (i : Nat), i < 6 → rowV (CM.mk 1000 6703903964971298549787012499102923063739682910296196688861780721860882015036773488400937149083451713845015929093243025426876941405973284973216824503042048 []) [CK.val, CK.val, CK.val] 0 (G i) (G i),
 false = false,
 n ≤ n,
 BF (seenB E of B 0) = BF (seenB E of B 0) ∧ plainSh [CK.bool] = true ∨ ∀ (i : Nat), i < n → rowOb [CK.bool] 0 (BF (seenB E of B 0) i) (BF (seenB E of B 0) i),
 true = true,
 (1 : Nat) ≤ (1 : Nat),
 tabF tab = tabF tab ∧ plainSh (List.map kindOfV tab) = true ∨ ∀ (i : Nat), i < 1 → rowOb (List.map kindOfV tab) 0 (tabF tab i) (tabF tab i),
 S.st = S.st,
 S.L.c = S.L.c,
 S.L.k = S.L.k,
 S.L.a = S.L.a,
 S.L.f = S.L.f,
 S.L.w = S.L.w,
 S.L.i = S.L.i,
 S.L.d = S.L.d,
 ∀ (k : List Int), S.M k = S.M k,
 true = true,
 m ≤ m,
 f = f ∧ plainSh [CK.int IntKind.u8] = true ∨ ∀ (i : Nat), i < m → rowOb [CK.int IntKind.u8] 0 (f i) (f i)]) := by kernel_rfl
theorem fapb_lp (n : Nat) (a : Nat) (of : Nat) (len : Nat) (E : Nat → Int) (B : Nat → Bool) (G : Nat → Nat → AV) (m : Nat) (f : Nat → Nat → AV) (S : MS) (o : PO) (hn : n ≤ 60) (hi6 : a < 6) (hle : len ≤ 1000) (hV : ∀ (i : Nat), i < 6 → rowV (CM.mk 1000 fam0 []) [.val, .val, .val] 0 (G i) (G i)) (hG : G (0 + a) 0 = .ss 1 900 of len none) (hE : ∀ k, k < len → 0 ≤ E (of + k) ∧ E (of + k) < n ∧ seenB E of B k (E (of + k)).toNat = false) : fapbLP n a of len E B G m f S o := by
  refine loop_rule EFo_ok (I := Nat) (fun i => fapbT n a of len E B G m f S o i) (fun i => len - i) (fun i => i ≤ len) ?_ (fun ii hi => ?_)
  ·
    refine ⟨0, [], _, Nat.zero_le _, fapbi_1 .., (cj ⟨rfl, rfl, rfl, rfl, rfl, rfl, rfl, rfl, rfl, rfl, Nat.le_refl _, .inl ⟨rfl, rfl⟩, rfl, rfl, rfl, rfl, rfl, rfl, Nat.le_refl _, hV, rfl, Nat.le_refl _, .inl ⟨rfl, rfl⟩, rfl, Nat.le_refl _, .inl ⟨rfl, rfl⟩, rfl, rfl, rfl, rfl, rfl, rfl, rfl, rfl, (fun _ => rfl), rfl, Nat.le_refl _, .inl ⟨rfl, rfl⟩, trivial⟩)⟩
  have hi : ii ≤ len := hi
  have hG0 := hG
  have hz0 : ii < len → decide (E (of + ii) < 0) = false := fun h => decide_eq_false (by have := (hE ii h).1; omega)
  have hz1 : ii < len → decide (E (of + ii) ≥ Int.ofNat n) = false := fun h => decide_eq_false (by have := (hE ii h).2.1; simp; omega)
  have hz2 : ii < len → seenB E of B ii (0 + (E (of + ii)).toNat) = false := fun h => by rw [Nat.zero_add]; exact (hE ii h).2.2
  have hb1 : ii < len → (0 + (E (of + ii)).toNat).blt n = true := fun h => by rw [Nat.zero_add]; have := hE ii h; simp [Nat.blt_eq]; omega
  have hb2 : ii < len → ((E (of + ii)).toNat.blt n && decide (0 ≤ E (of + ii))) = true := fun h => by rw [Bool.and_eq_true]; have := hE ii h; exact ⟨by simp [Nat.blt_eq]; omega, decide_eq_true this.1⟩
  have hb3 : (0 + (Int.ofNat a).toNat).blt 6 = true := by simp [Nat.blt_eq]; omega
  have hb4 : ((Int.ofNat a).toNat.blt 6 && decide (0 ≤ Int.ofNat a)) = true := by rw [Bool.and_eq_true]; exact ⟨by simp [Nat.blt_eq]; omega, decide_eq_true (by simp)⟩
  cases h1 : (decide (Int.ofNat ii < Int.ofNat len)) with
  | true =>
    have g1 := of_decide_eq_true h1
    try simp only [Int.ofNat_eq_natCast, ge_iff_le, gt_iff_lt, Int.not_lt, Int.not_le] at g1
    refine round_norm (s0 := fapbU n a of len E B G m f S o) (T := fun i => fapbT n a of len E B G m f S o i) (i := ii) (ii + 1) (fapbr_1 ..) (cj ⟨rfl, rfl, rfl, rfl, rfl, rfl, rfl, rfl, wrap_nat64 _ (by simp; omega) (by simp; omega), rfl, Nat.le_refl _, .inl ⟨rfl, rfl⟩, rfl, rfl, rfl, rfl, rfl, rfl, Nat.le_refl _, hV, rfl, Nat.le_refl _, .inr (seen_rows (Nat.zero_add _)), rfl, Nat.le_refl _, .inl ⟨rfl, rfl⟩, rfl, rfl, rfl, rfl, rfl, rfl, rfl, rfl, (fun _ => rfl), rfl, Nat.le_refl _, .inl ⟨rfl, rfl⟩, hb1 (by omega), hb2 (by omega), hz2 (by omega), hb1 (by omega), hb2 (by omega), hz1 (by omega), hz0 (by omega), (by (apply Nat.ble_eq_true_of_le; omega)), (by (try simp [Nat.blt_eq]); omega), (by with_reducible assumption), hb3, hb4, h1, (by with_reducible assumption), hb3, hb4, trivial⟩) (by show ii + 1 ≤ len; omega) (by show len - (ii + 1) < len - ii; omega)
  | false =>
    have g1 := of_decide_eq_false h1
    try simp only [Int.ofNat_eq_natCast, ge_iff_le, gt_iff_lt, Int.not_lt, Int.not_le] at g1
    obtain rfl : len = ii := by omega
    refine round_exit (s0 := fapbU n a of len E B G m f S o) (T := fun i => fapbT n a of len E B G m f S o i) (i := len) (fapbr_2 ..) (by simp) (cj ⟨rfl, rfl, rfl, rfl, rfl, rfl, rfl, rfl, rfl, Nat.le_refl _, .inl ⟨rfl, rfl⟩, rfl, rfl, rfl, rfl, rfl, rfl, Nat.le_refl _, hV, rfl, Nat.le_refl _, .inl ⟨rfl, rfl⟩, rfl, Nat.le_refl _, .inl ⟨rfl, rfl⟩, rfl, rfl, rfl, rfl, rfl, rfl, rfl, rfl, (fun _ => rfl), rfl, Nat.le_refl _, .inl ⟨rfl, rfl⟩, h1, (by with_reducible assumption), hb3, hb4, trivial⟩)
theorem fapcr_1 (n : Nat) (a : Nat) (of : Nat) (len : Nat) (E : Nat → Int) (B : Nat → Bool) (G : Nat → Nat → AV) (m : Nat) (f : Nat → Nat → AV) (S : MS) (o : UO) (ii : Nat) : roundB EFo 2000 fapcL ((fapcU n a of len E B G m f S o).hp) [] (fapcT n a of len E B G m f S o ii) [Hint.a (AV.ss 1 900 of len none), Hint.b true, Hint.a (AV.ss 1 900 of len none), Hint.b false, Hint.b false, Hint.b false] (fapcT n a of len E B G m f S o (ii + 1)) =
 some (Ex.norm, [(0 : Nat) = 0,
 (6 : Nat) = 6,
 some 6 = some 6,
 Int.ofNat n = Int.ofNat n,
 (0 : Nat) = 0,
 n = n,
 some n = some n,
 Int.ofNat a = Int.ofNat a,
 IntKind.i64.wrap (Int.ofNat ii + 1) = Int.ofNat (ii + 1),
 false = false,
 of + len ≤ of + len,
 LF E = LF E ∧ plainSh [CK.int IntKind.i64] = true ∨ ∀ (i : Nat), i < of + len → rowOb [CK.int IntKind.i64] 0 (LF E i) (LF E i),
 o.ln = o.ln,
 o.h = o.h,
 o.sl = o.sl,
 false = false,
 (6 : Nat) ≤ (6 : Nat),
 ∀ (i : Nat), i < 6 → rowV (CM.mk 1000 6703903964971298549787012499102923063739682910296196688861780721860882015036773488400937149083451713845015929093243025426876941405973284973216824503042048 []) [CK.val, CK.val, CK.val] 0 (G i) (G i),
 false = false,
 n ≤ n,
 BF (seenB E of B (ii + 1)) = upd (BF (seenB E of B ii)) (0 + (E (of + ii)).toNat) 0 (ofVal (Value.bool true)).cells ∧ plainSh [CK.bool] = true ∨ ∀ (i : Nat), i < n → rowOb [CK.bool] 0 (upd (BF (seenB E of B ii)) (0 + (E (of + ii)).toNat) 0 (ofVal (Value.bool true)).cells i) (BF (seenB E of B (ii + 1)) i),
 true = true,
 (1 : Nat) ≤ (1 : Nat),
 tabF tab = tabF tab ∧ plainSh (List.map kindOfV tab) = true ∨ ∀ (i : Nat), i < 1 → rowOb (List.map kindOfV tab) 0 (tabF tab i) (tabF tab i),
 S.st = S.st,
 S.L.c = S.L.c,
 S.L.k = S.L.k,
 S.L.a = S.L.a,
 S.L.f = S.L.f,
 S.L.w = S.L.w,
 S.L.i = S.L.i,
 S.L.d = S.L.d,
 ∀ (k : List Int), S.M k = S.M k,
 true = true,
 m ≤ m,
 f = f ∧ plainSh [CK.int IntKind.u8] = true ∨ ∀ (i : Nat), i < m → rowOb [CK.int IntKind.u8] 0 (f i) (f i),
 (0 + (E (of + ii)).toNat).blt n = true,
 ((E (of + ii)).toNat.blt n && decide (0 ≤ E (of + ii))) = true,
 seenB E of B ii (0 + (E (of + ii)).toNat) = false,
 (0 + (E (of + ii)).toNat).blt n = true,
 ((E (of + ii)).toNat.blt n && decide (0 ≤ E (of + ii))) = true,
 decide (E (of + ii) ≥ Int.ofNat n) = false,
 decide (E (of + ii) < 0) = false,
 (of + ii).blt (of + len) = true,
 (ii.blt len && decide (0 ≤ Int.ofNat ii)) = true,
 G (0 + a) 0 = AV.ss 1 900 of len none,
 (0 + a).blt 6 = true,
 (a.blt 6 && decide (0 ≤ Int.ofNat a)) = true,
 decide (Int.ofNat ii < Int.ofNat len) = true,
 G (0 + a) 0 = AV.ss 1 900 of len none,
 (0 + a).blt 6 = true,
 (a.blt 6 && decide (0 ≤ Int.ofNat a)) = true]) := by kernel_rfl
theorem fapcr_2 (n : Nat) (a : Nat) (of : Nat) (len : Nat) (E : Nat → Int) (B : Nat → Bool) (G : Nat → Nat → AV) (m : Nat) (f : Nat → Nat → AV) (S : MS) (o : UO) (ii : Nat) : roundB EFo 2000 fapcL ((fapcU n a of len E B G m f S o).hp) [] (fapcT n a of len E B G m f S o ii) [Hint.a (AV.ss 1 900 of len none), Hint.b false] (fapcX n a of len E B G m f S o ii) =
 some (Ex.exit 2, [(0 : Nat) = 0,
 (6 : Nat) = 6,
 some 6 = some 6,
 Int.ofNat n = Int.ofNat n,
 (0 : Nat) = 0,
 n = n,
 some n = some n,
 Int.ofNat a = Int.ofNat a,
 false = false,
 of + len ≤ of + len,
 LF E = LF E ∧ plainSh [CK.int IntKind.i64] = true ∨ ∀ (i : Nat), i < of + len → rowOb [CK.int IntKind.i64] 0 (LF E i) (LF E i),
 o.ln = o.ln,
 o.h = o.h,
 o.sl = o.sl,
 false = false,
 (6 : Nat) ≤ (6 : Nat),
 ∀ (i : Nat), i < 6 → rowV (CM.mk 1000 6703903964971298549787012499102923063739682910296196688861780721860882015036773488400937149083451713845015929093243025426876941405973284973216824503042048 []) [CK.val, CK.val, CK.val] 0 (G i) (G i),
 false = false,
 n ≤ n,
 BF (seenB E of B ii) = BF (seenB E of B ii) ∧ plainSh [CK.bool] = true ∨ ∀ (i : Nat), i < n → rowOb [CK.bool] 0 (BF (seenB E of B ii) i) (BF (seenB E of B ii) i),
 true = true,
 (1 : Nat) ≤ (1 : Nat),
 tabF tab = tabF tab ∧ plainSh (List.map kindOfV tab) = true ∨ ∀ (i : Nat), i < 1 → rowOb (List.map kindOfV tab) 0 (tabF tab i) (tabF tab i),
 S.st = S.st,
 S.L.c = S.L.c,
 S.L.k = S.L.k,
 S.L.a = S.L.a,
 S.L.f = S.L.f,
 S.L.w = S.L.w,
 S.L.i = S.L.i,
 S.L.d = S.L.d,
 ∀ (k : List Int), S.M k = S.M k,
 true = true,
 m ≤ m,
 f = f ∧ plainSh [CK.int IntKind.u8] = true ∨ ∀ (i : Nat), i < m → rowOb [CK.int IntKind.u8] 0 (f i) (f i),
 decide (Int.ofNat ii < Int.ofNat len) = false,
 G (0 + a) 0 = AV.ss 1 900 of len none,
 (0 + a).blt 6 = true,
 (a.blt 6 && decide (0 ≤ Int.ofNat a)) = true]) := by kernel_rfl
theorem fapci_1 (n : Nat) (a : Nat) (of : Nat) (len : Nat) (E : Nat → Int) (B : Nat → Bool) (G : Nat → Nat → AV) (m : Nat) (f : Nat → Nat → AV) (S : MS) (o : UO) : castSt ((fapcU n a of len E B G m f S o).hp) [] (fapcU n a of len E B G m f S o) (fapcT n a of len E B G m f S o 0) =
 some ([(0 : Nat) = 0,
 (6 : Nat) = 6,
 some 6 = some 6,
 Int.ofNat n = Int.ofNat n,
 (0 : Nat) = 0,
 n = n,
 some n = some n,
 Int.ofNat a = Int.ofNat a,
 (0 : Int) = 0,
 false = false,
 of + len ≤ of + len,
 LF E = LF E ∧ plainSh [CK.int IntKind.i64] = true ∨ ∀ (i : Nat), i < of + len → rowOb [CK.int IntKind.i64] 0 (LF E i) (LF E i),
 o.ln = o.ln,
 o.h = o.h,
 o.sl = o.sl,
 false = false,
 (6 : Nat) ≤ (6 : Nat),
 ∀ (i : Nat), i < 6 → rowV (CM.mk 1000 6703903964971298549787012499102923063739682910296196688861780721860882015036773488400937149083451713845015929093243025426876941405973284973216824503042048 []) [CK.val, CK.val, CK.val] 0 (G i) (G i),
 false = false,
 n ≤ n,
 BF (seenB E of B 0) = BF (seenB E of B 0) ∧ plainSh [CK.bool] = true ∨ ∀ (i : Nat), i < n → rowOb [CK.bool] 0 (BF (seenB E of B 0) i) (BF (seenB E of B 0) i),
 true = true,
 (1 : Nat) ≤ (1 : Nat),
 tabF tab = tabF tab ∧ plainSh (List.map kindOfV tab) = true ∨ ∀ (i : Nat), i < 1 → rowOb (List.map kindOfV tab) 0 (tabF tab i) (tabF tab i),
 S.st = S.st,
 S.L.c = S.L.c,
 S.L.k = S.L.k,
 S.L.a = S.L.a,
 S.L.f = S.L.f,
 S.L.w = S.L.w,
 S.L.i = S.L.i,
 S.L.d = S.L.d,
 ∀ (k : List Int), S.M k = S.M k,
 true = true,
 m ≤ m,
 f = f ∧ plainSh [CK.int IntKind.u8] = true ∨ ∀ (i : Nat), i < m → rowOb [CK.int IntKind.u8] 0 (f i) (f i)]) := by kernel_rfl
theorem fapc_lp (n : Nat) (a : Nat) (of : Nat) (len : Nat) (E : Nat → Int) (B : Nat → Bool) (G : Nat → Nat → AV) (m : Nat) (f : Nat → Nat → AV) (S : MS) (o : UO) (hn : n ≤ 60) (hi6 : a < 6) (hle : len ≤ 1000) (hV : ∀ (i : Nat), i < 6 → rowV (CM.mk 1000 fam0 []) [.val, .val, .val] 0 (G i) (G i)) (hG : G (0 + a) 0 = .ss 1 900 of len none) (hE : ∀ k, k < len → 0 ≤ E (of + k) ∧ E (of + k) < n ∧ seenB E of B k (E (of + k)).toNat = false) : fapcLP n a of len E B G m f S o := by
  refine loop_rule EFo_ok (I := Nat) (fun i => fapcT n a of len E B G m f S o i) (fun i => len - i) (fun i => i ≤ len) ?_ (fun ii hi => ?_)
  ·
    refine ⟨0, [], _, Nat.zero_le _, fapci_1 .., (cj ⟨rfl, rfl, rfl, rfl, rfl, rfl, rfl, rfl, rfl, rfl, Nat.le_refl _, .inl ⟨rfl, rfl⟩, rfl, rfl, rfl, rfl, Nat.le_refl _, hV, rfl, Nat.le_refl _, .inl ⟨rfl, rfl⟩, rfl, Nat.le_refl _, .inl ⟨rfl, rfl⟩, rfl, rfl, rfl, rfl, rfl, rfl, rfl, rfl, (fun _ => rfl), rfl, Nat.le_refl _, .inl ⟨rfl, rfl⟩, trivial⟩)⟩
  have hi : ii ≤ len := hi
  have hG0 := hG
  have hz0 : ii < len → decide (E (of + ii) < 0) = false := fun h => decide_eq_false (by have := (hE ii h).1; omega)
  have hz1 : ii < len → decide (E (of + ii) ≥ Int.ofNat n) = false := fun h => decide_eq_false (by have := (hE ii h).2.1; simp; omega)
  have hz2 : ii < len → seenB E of B ii (0 + (E (of + ii)).toNat) = false := fun h => by rw [Nat.zero_add]; exact (hE ii h).2.2
  have hb1 : ii < len → (0 + (E (of + ii)).toNat).blt n = true := fun h => by rw [Nat.zero_add]; have := hE ii h; simp [Nat.blt_eq]; omega
  have hb2 : ii < len → ((E (of + ii)).toNat.blt n && decide (0 ≤ E (of + ii))) = true := fun h => by rw [Bool.and_eq_true]; have := hE ii h; exact ⟨by simp [Nat.blt_eq]; omega, decide_eq_true this.1⟩
  have hb3 : (0 + (Int.ofNat a).toNat).blt 6 = true := by simp [Nat.blt_eq]; omega
  have hb4 : ((Int.ofNat a).toNat.blt 6 && decide (0 ≤ Int.ofNat a)) = true := by rw [Bool.and_eq_true]; exact ⟨by simp [Nat.blt_eq]; omega, decide_eq_true (by simp)⟩
  cases h1 : (decide (Int.ofNat ii < Int.ofNat len)) with
  | true =>
    have g1 := of_decide_eq_true h1
    try simp only [Int.ofNat_eq_natCast, ge_iff_le, gt_iff_lt, Int.not_lt, Int.not_le] at g1
    refine round_norm (s0 := fapcU n a of len E B G m f S o) (T := fun i => fapcT n a of len E B G m f S o i) (i := ii) (ii + 1) (fapcr_1 ..) (cj ⟨rfl, rfl, rfl, rfl, rfl, rfl, rfl, rfl, wrap_nat64 _ (by simp; omega) (by simp; omega), rfl, Nat.le_refl _, .inl ⟨rfl, rfl⟩, rfl, rfl, rfl, rfl, Nat.le_refl _, hV, rfl, Nat.le_refl _, .inr (seen_rows (Nat.zero_add _)), rfl, Nat.le_refl _, .inl ⟨rfl, rfl⟩, rfl, rfl, rfl, rfl, rfl, rfl, rfl, rfl, (fun _ => rfl), rfl, Nat.le_refl _, .inl ⟨rfl, rfl⟩, hb1 (by omega), hb2 (by omega), hz2 (by omega), hb1 (by omega), hb2 (by omega), hz1 (by omega), hz0 (by omega), (by (apply Nat.ble_eq_true_of_le; omega)), (by (try simp [Nat.blt_eq]); omega), (by with_reducible assumption), hb3, hb4, h1, (by with_reducible assumption), hb3, hb4, trivial⟩) (by show ii + 1 ≤ len; omega) (by show len - (ii + 1) < len - ii; omega)
  | false =>
    have g1 := of_decide_eq_false h1
    try simp only [Int.ofNat_eq_natCast, ge_iff_le, gt_iff_lt, Int.not_lt, Int.not_le] at g1
    obtain rfl : len = ii := by omega
    refine round_exit (s0 := fapcU n a of len E B G m f S o) (T := fun i => fapcT n a of len E B G m f S o i) (i := len) (fapcr_2 ..) (by simp) (cj ⟨rfl, rfl, rfl, rfl, rfl, rfl, rfl, rfl, rfl, Nat.le_refl _, .inl ⟨rfl, rfl⟩, rfl, rfl, rfl, rfl, Nat.le_refl _, hV, rfl, Nat.le_refl _, .inl ⟨rfl, rfl⟩, rfl, Nat.le_refl _, .inl ⟨rfl, rfl⟩, rfl, rfl, rfl, rfl, rfl, rfl, rfl, rfl, (fun _ => rfl), rfl, Nat.le_refl _, .inl ⟨rfl, rfl⟩, h1, (by with_reducible assumption), hb3, hb4, trivial⟩)
end Go.Proofs.YtljeiencnpnbkaaDoor
