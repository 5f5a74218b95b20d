/-
  FreesOnce: apart over the family.
-/
import Derived.Test.YtljeiencnpnbkaaDoorUFofDef
set_option linter.unusedSimpArgs false
set_option linter.unusedVariables false
namespace Go.Proofs.YtljeiencnpnbkaaDoor
open Go.Ev
theorem faga_1 (m : Nat) (f : Nat → Nat → AV) (n : Nat) (S : MS) (T : Nat → FW) (ai : Nat) (B : Nat → Bool) (of len : Nat) (E : Nat → Int) (p : PO) (u : UO) : roundB EFo 3000 fagL (h0F foF (foU m f n)) [(6, Src.nm 6), (900, Src.nm 900)] (locSt foF (fagS m f n S T ai B) true (foMb (FW.mk 0 of len E p u)) ai []) [Hint.b true, Hint.lp [0, 1, 4, 5, 6, 7] (Ex.exit 2) (fapaX n ai of len E B (lrow fam0 2 (fagS m f n S T ai B).M ai) m f S len).tmps (fapaX n ai of len E B (lrow fam0 2 (fagS m f n S T ai B).M ai) m f S len).hp.heap 1000 [6, 5, 3, 2], Hint.b true] (locSt foF (fagS m f n S T (ai + 1) (seenB E of B len)) true (foMb (FW.mk 0 of len E p u)) ai []) =
 some (Ex.norm, [(0 : Nat) = 0,
 (6 : Nat) = 6,
 some 6 = some 6,
 Int.ofNat n = Int.ofNat n,
 (0 : Nat) = 0,
 n = n,
 some n = some n,
 IntKind.i64.wrap (Int.ofNat ai + 1) = Int.ofNat (ai + 1),
 false = false,
 of + len ≤ of + len,
 LF E = LF E ∧ plainSh [CK.int IntKind.i64] = true ∨ ∀ (i : Nat), i < of + len → rowOb [CK.int IntKind.i64] 0 (LF E i) (LF E i),
 false = false,
 (6 : Nat) ≤ (6 : Nat),
 ∀ (i : Nat), i < 6 → rowV (CM.mk 6 6703903964971298549787012499102923063739682910296196688861780721860882015036773488400937149083451713845015929093243025426876941405973284973216824503042048 [(6, Src.nm 6), (900, Src.nm 900)]) [CK.val, CK.val, CK.val] 0 (lrow fam0 2 (fagS m f n S T ai B).M ai i) (lrow 6703903964971298549787012499102923063739682910296196688861780721860882015036773488400937149083451713845015929093243025426876941405973284973216824503042048 2 (fagS m f n S T (ai + 1) (seenB E of B len)).M ai i),
 false = false,
 n ≤ n,
 BF (seenB E of B len) = BF (seenB E of B len) ∧ plainSh [CK.bool] = true ∨ ∀ (i : Nat), i < n → rowOb [CK.bool] 0 (BF (seenB E of B len) i) (BF (seenB E of B len) i),
 true = true,
 (1 : Nat) ≤ (1 : Nat),
 tabF tab = tabF tab ∧ plainSh (List.map kindOfV tab) = true ∨ ∀ (i : Nat), i < 1 → rowOb (List.map kindOfV tab) 0 (tabF tab i) (tabF tab i),
 S.st = S.st,
 S.L.c = S.L.c,
 S.L.k = S.L.k,
 S.L.a = S.L.a,
 S.L.f = S.L.f,
 S.L.w = S.L.w,
 S.L.i = S.L.i,
 S.L.d = S.L.d,
 ∀ (k : List Int), S.M k = S.M k,
 true = true,
 m ≤ m,
 f = f ∧ plainSh [CK.int IntKind.u8] = true ∨ ∀ (i : Nat), i < m → rowOb [CK.int IntKind.u8] 0 (f i) (f i),
 fapaLP n ai of len E B (lrow fam0 2 (fagS m f n S T ai B).M ai) m f S,
 decide (Int.ofNat ai < 6) = true]) := by kernel_rfl
theorem faga_ex (m : Nat) (f : Nat → Nat → AV) (n : Nat) (S : MS) (T : Nat → FW) (ai : Nat) (B : Nat → Bool) (of len : Nat) (E : Nat → Int) (p : PO) (u : UO) (ha : ai < 6) (hT : T ai = ⟨0, of, len, E, p, u⟩) (hn : n ≤ 60) (hle : len ≤ 1000) (hE : ∀ k, k < len → 0 ≤ E (of + k) ∧ E (of + k) < n ∧ seenB E of B k (E (of + k)).toNat = false) :
    FEx Tryd.prog foF (foU m f n) fagL (fagS m f n S T ai B) .norm (fagS m f n S T (ai + 1) (seenB E of B len)) := by
  have hG : lrow fam0 2 (fagS m f n S T ai B).M ai (0 + ai) 0 = .ss 1 900 of len none := by rw [Nat.zero_add, lrow_j (mb := foMb ⟨0, of, len, E, p, u⟩) (by show foMb (T ai) = _; rw [hT])]; rfl
  have r0 : lrow fam0 2 (fagS m f n S T ai B).M ai ai 0 = .ss 1 900 of len none := by rw [lrow_j (mb := foMb ⟨0, of, len, E, p, u⟩) (by show foMb (T ai) = _; rw [hT])]; rfl
  have r1 : lrow fam0 2 (fagS m f n S T ai B).M ai ai 1 = .nilp := by rw [lrow_j (mb := foMb ⟨0, of, len, E, p, u⟩) (by show foMb (T ai) = _; rw [hT])]; rfl
  have r2 : lrow fam0 2 (fagS m f n S T ai B).M ai ai 2 = .nilp := by rw [lrow_j (mb := foMb ⟨0, of, len, E, p, u⟩) (by show foMb (T ai) = _; rw [hT])]; rfl
  have hV : ∀ (i : Nat), i < 6 → rowV (CM.mk 1000 fam0 []) [.val, .val, .val] 0 (lrow fam0 2 (fagS m f n S T ai B).M ai i) (lrow fam0 2 (fagS m f n S T ai B).M ai i) := fun i hi =>
    fam_rowsK (F := foF) (c := CM.mk 1000 fam0 []) (n' := 6) (Nat.le_refl _) (M := fun k => foMb (T k)) (M' := fun k => foMb (T k)) (j := ai) (src := fun i => lrow fam0 2 (fagS m f n S T ai B).M ai i) (fun i _ hi => ⟨foMb_ok _, rfl, fun cc => lrow_ne hi⟩)
      (fun _ => by show rowV _ [.val, .val, .val] 0 _ (fun cc => mrow 2 900 (foMb (T ai)) cc); rw [hT]; exact ⟨valV_eq r0 (valV_ss rfl), valV_eq r1 (valV_nilp), valV_eq r2 (valV_nilp), trivial⟩) i hi
  have hrow : ∀ (i : Nat), i < 6 → rowV (CM.mk 6 fam0 [(6, Src.nm 6), (900, Src.nm 900)]) [.val, .val, .val] 0 (lrow fam0 2 (fagS m f n S T ai B).M ai i) (lrow fam0 2 (fagS m f n S T (ai + 1) (seenB E of B len)).M ai i) := fun i hi =>
    fam_rowsK (F := foF) (c := CM.mk 6 fam0 [(6, Src.nm 6), (900, Src.nm 900)]) (n' := 6) (Nat.le_refl _) (M := fun k => foMb (T k)) (M' := fun k => foMb (T k)) (j := ai) (src := fun i => lrow fam0 2 (fagS m f n S T ai B).M ai i) (fun i _ hi => ⟨foMb_ok _, rfl, fun cc => lrow_ne hi⟩)
      (fun _ => by show rowV _ [.val, .val, .val] 0 _ (fun cc => mrow 2 900 (foMb (T ai)) cc); rw [hT]; exact ⟨valV_eq r0 (valV_ss rfl), valV_eq r1 (valV_nilp), valV_eq r2 (valV_nilp), trivial⟩) i hi
  have haw : IntKind.i64.wrap (Int.ofNat ai + 1) = Int.ofNat (ai + 1) := by rw [i64w (by simp; omega) (by simp; omega)]; simp
  have ha0 : decide (Int.ofNat ai < 6) = true := decide_eq_true (by simp; omega)
  have hlp : fapaLP n ai of len E B (lrow fam0 2 (fagS m f n S T ai B).M ai) m f S := fapa_lp n ai of len E B (lrow fam0 2 (fagS m f n S T ai B).M ai) m f S hn ha hle hV hG hE
  refine fex_loc EFo_ok foFam foSOk ai true true (mb := foMb ⟨0, of, len, E, p, u⟩) (mb' := foMb ⟨0, of, len, E, p, u⟩) (faga_1 m f n S T ai B of len E p u) (cj ⟨rfl, rfl, rfl, rfl, rfl, rfl, rfl, (by with_reducible assumption), rfl, Nat.le_refl _, .inl ⟨rfl, rfl⟩, rfl, Nat.le_refl _, hrow, rfl, Nat.le_refl _, .inl ⟨rfl, rfl⟩, rfl, Nat.le_refl _, .inl ⟨rfl, rfl⟩, rfl, rfl, rfl, rfl, rfl, rfl, rfl, rfl, (fun _ => rfl), rfl, Nat.le_refl _, .inl ⟨rfl, rfl⟩, (by with_reducible assumption), (by with_reducible assumption), trivial⟩) foGood foGood (fun _ => ha) (by show foMb (T ai) = _; rw [hT]) (by show foMb (T ai) = _; rw [hT]) (.inl ⟨rfl, ha⟩) (fun k hk _ => ⟨hk, rfl⟩)
theorem fagb_1 (m : Nat) (f : Nat → Nat → AV) (n : Nat) (S : MS) (T : Nat → FW) (ai : Nat) (B : Nat → Bool) (of len : Nat) (E : Nat → Int) (p : PO) (u : UO) : roundB EFo 3000 fagL (h0F foF (foU m f n)) [(6, Src.nm 6), (900, Src.nm 900), (901, Src.nm 901)] (locSt foF (fagS m f n S T ai B) true (foMb (FW.mk 1 of len E p u)) ai []) [Hint.b true, Hint.lp [0, 1, 4, 5, 6, 7] (Ex.exit 2) (fapbX n ai of len E B (lrow fam0 2 (fagS m f n S T ai B).M ai) m f S p len).tmps (fapbX n ai of len E B (lrow fam0 2 (fagS m f n S T ai B).M ai) m f S p len).hp.heap 1000 [6, 5, 3, 2], Hint.b true] (locSt foF (fagS m f n S T (ai + 1) (seenB E of B len)) true (foMb (FW.mk 1 of len E p u)) ai []) =
 some (Ex.norm, [(0 : Nat) = 0,
 (6 : Nat) = 6,
 some 6 = some 6,
 Int.ofNat n = Int.ofNat n,
 (0 : Nat) = 0,
 n = n,
 some n = some n,
 IntKind.i64.wrap (Int.ofNat ai + 1) = Int.ofNat (ai + 1),
 false = false,
 of + len ≤ of + len,
 LF E = LF E ∧ plainSh [CK.int IntKind.i64] = true ∨ ∀ (i : Nat), i < of + len → rowOb [CK.int IntKind.i64] 0 (LF E i) (LF E i),
 p.ln = p.ln,
 p.h = p.h,
 p.nx = p.nx,
 p.sl = p.sl,
 p.ok = p.ok,
 false = false,
 (6 : Nat) ≤ (6 : Nat),
 ∀ (i : Nat), i < 6 → rowV (CM.mk 6 6703903964971298549787012499102923063739682910296196688861780721860882015036773488400937149083451713845015929093243025426876941405973284973216824503042048 [(6, Src.nm 6), (900, Src.nm 900), (901, Src.nm 901)]) [CK.val, CK.val, CK.val] 0 (lrow fam0 2 (fagS m f n S T ai B).M ai i) (lrow 6703903964971298549787012499102923063739682910296196688861780721860882015036773488400937149083451713845015929093243025426876941405973284973216824503042048 2 (fagS m f n S T (ai + 1) (seenB E of B len)).M ai i),
 false = false,
 n ≤ n,
 BF (seenB E of B len) = BF (seenB E of B len) ∧ plainSh [CK.bool] = true ∨ ∀ (i : Nat), i < n → rowOb [CK.bool] 0 (BF (seenB E of B len) i) (BF (seenB E of B len) i),
 true = true,
 (1 : Nat) ≤ (1 : Nat),
 tabF tab = tabF tab ∧ plainSh (List.map kindOfV tab) = true ∨ ∀ (i : Nat), i < 1 → rowOb (List.map kindOfV tab) 0 (tabF tab i) (tabF tab i),
 S.st = S.st,
 S.L.c = S.L.c,
 S.L.k = S.L.k,
 S.L.a = S.L.a,
 S.L.f = S.L.f,
 S.L.w = S.L.w,
 S.L.i = S.L.i,
 S.L.d = S.L.d,
 ∀ (k : List Int), S.M k = S.M k,
 true = true,
 m ≤ m,
 f = f ∧ plainSh [CK.int IntKind.u8] = true ∨ ∀ (i : Nat), i < m → rowOb [CK.int IntKind.u8] 0 (f i) (f i),
 fapbLP n ai of len E B (lrow fam0 2 (fagS m f n S T ai B).M ai) m f S p,
 decide (Int.ofNat ai < 6) = true]) := by kernel_rfl
theorem fagb_ex (m : Nat) (f : Nat → Nat → AV) (n : Nat) (S : MS) (T : Nat → FW) (ai : Nat) (B : Nat → Bool) (of len : Nat) (E : Nat → Int) (p : PO) (u : UO) (ha : ai < 6) (hT : T ai = ⟨1, of, len, E, p, u⟩) (hn : n ≤ 60) (hle : len ≤ 1000) (hE : ∀ k, k < len → 0 ≤ E (of + k) ∧ E (of + k) < n ∧ seenB E of B k (E (of + k)).toNat = false) :
    FEx Tryd.prog foF (foU m f n) fagL (fagS m f n S T ai B) .norm (fagS m f n S T (ai + 1) (seenB E of B len)) := by
  have hG : lrow fam0 2 (fagS m f n S T ai B).M ai (0 + ai) 0 = .ss 1 900 of len none := by rw [Nat.zero_add, lrow_j (mb := foMb ⟨1, of, len, E, p, u⟩) (by show foMb (T ai) = _; rw [hT])]; rfl
  have r0 : lrow fam0 2 (fagS m f n S T ai B).M ai ai 0 = .ss 1 900 of len none := by rw [lrow_j (mb := foMb ⟨1, of, len, E, p, u⟩) (by show foMb (T ai) = _; rw [hT])]; rfl
  have r1 : lrow fam0 2 (fagS m f n S T ai B).M ai ai 1 = .ptr 901 0 0 := by rw [lrow_j (mb := foMb ⟨1, of, len, E, p, u⟩) (by show foMb (T ai) = _; rw [hT])]; rfl
  have r2 : lrow fam0 2 (fagS m f n S T ai B).M ai ai 2 = .nilp := by rw [lrow_j (mb := foMb ⟨1, of, len, E, p, u⟩) (by show foMb (T ai) = _; rw [hT])]; rfl
  have hV : ∀ (i : Nat), i < 6 → rowV (CM.mk 1000 fam0 []) [.val, .val, .val] 0 (lrow fam0 2 (fagS m f n S T ai B).M ai i) (lrow fam0 2 (fagS m f n S T ai B).M ai i) := fun i hi =>
    fam_rowsK (F := foF) (c := CM.mk 1000 fam0 []) (n' := 6) (Nat.le_refl _) (M := fun k => foMb (T k)) (M' := fun k => foMb (T k)) (j := ai) (src := fun i => lrow fam0 2 (fagS m f n S T ai B).M ai i) (fun i _ hi => ⟨foMb_ok _, rfl, fun cc => lrow_ne hi⟩)
      (fun _ => by show rowV _ [.val, .val, .val] 0 _ (fun cc => mrow 2 900 (foMb (T ai)) cc); rw [hT]; exact ⟨valV_eq r0 (valV_ss rfl), valV_eq r1 (valV_ptr (n := 901) rfl), valV_eq r2 (valV_nilp), trivial⟩) i hi
  have hrow : ∀ (i : Nat), i < 6 → rowV (CM.mk 6 fam0 [(6, Src.nm 6), (900, Src.nm 900), (901, Src.nm 901)]) [.val, .val, .val] 0 (lrow fam0 2 (fagS m f n S T ai B).M ai i) (lrow fam0 2 (fagS m f n S T (ai + 1) (seenB E of B len)).M ai i) := fun i hi =>
    fam_rowsK (F := foF) (c := CM.mk 6 fam0 [(6, Src.nm 6), (900, Src.nm 900), (901, Src.nm 901)]) (n' := 6) (Nat.le_refl _) (M := fun k => foMb (T k)) (M' := fun k => foMb (T k)) (j := ai) (src := fun i => lrow fam0 2 (fagS m f n S T ai B).M ai i) (fun i _ hi => ⟨foMb_ok _, rfl, fun cc => lrow_ne hi⟩)
      (fun _ => by show rowV _ [.val, .val, .val] 0 _ (fun cc => mrow 2 900 (foMb (T ai)) cc); rw [hT]; exact ⟨valV_eq r0 (valV_ss rfl), valV_eq r1 (valV_ptr (n := 901) rfl), valV_eq r2 (valV_nilp), trivial⟩) i hi
  have haw : IntKind.i64.wrap (Int.ofNat ai + 1) = Int.ofNat (ai + 1) := by rw [i64w (by simp; omega) (by simp; omega)]; simp
  have ha0 : decide (Int.ofNat ai < 6) = true := decide_eq_true (by simp; omega)
  have hlp : fapbLP n ai of len E B (lrow fam0 2 (fagS m f n S T ai B).M ai) m f S p := fapb_lp n ai of len E B (lrow fam0 2 (fagS m f n S T ai B).M ai) m f S p hn ha hle hV hG hE
  refine fex_loc EFo_ok foFam foSOk ai true true (mb := foMb ⟨1, of, len, E, p, u⟩) (mb' := foMb ⟨1, of, len, E, p, u⟩) (fagb_1 m f n S T ai B of len E p u) (cj ⟨rfl, rfl, rfl, rfl, rfl, rfl, rfl, (by with_reducible assumption), rfl, Nat.le_refl _, .inl ⟨rfl, rfl⟩, rfl, rfl, rfl, rfl, rfl, rfl, Nat.le_refl _, hrow, rfl, Nat.le_refl _, .inl ⟨rfl, rfl⟩, rfl, Nat.le_refl _, .inl ⟨rfl, rfl⟩, rfl, rfl, rfl, rfl, rfl, rfl, rfl, rfl, (fun _ => rfl), rfl, Nat.le_refl _, .inl ⟨rfl, rfl⟩, (by with_reducible assumption), (by with_reducible assumption), trivial⟩) foGood foGood (fun _ => ha) (by show foMb (T ai) = _; rw [hT]) (by show foMb (T ai) = _; rw [hT]) (.inl ⟨rfl, ha⟩) (fun k hk _ => ⟨hk, rfl⟩)
theorem fagc_1 (m : Nat) (f : Nat → Nat → AV) (n : Nat) (S : MS) (T : Nat → FW) (ai : Nat) (B : Nat → Bool) (of len : Nat) (E : Nat → Int) (p : PO) (u : UO) : roundB EFo 3000 fagL (h0F foF (foU m f n)) [(6, Src.nm 6), (900, Src.nm 900), (901, Src.nm 901)] (locSt foF (fagS m f n S T ai B) true (foMb (FW.mk 2 of len E p u)) ai []) [Hint.b true, Hint.lp [0, 1, 4, 5, 6, 7] (Ex.exit 2) (fapcX n ai of len E B (lrow fam0 2 (fagS m f n S T ai B).M ai) m f S u len).tmps (fapcX n ai of len E B (lrow fam0 2 (fagS m f n S T ai B).M ai) m f S u len).hp.heap 1000 [6, 5, 3, 2], Hint.b true] (locSt foF (fagS m f n S T (ai + 1) (seenB E of B len)) true (foMb (FW.mk 2 of len E p u)) ai []) =
 some (Ex.norm, [(0 : Nat) = 0,
 (6 : Nat) = 6,
 some 6 = some 6,
 Int.ofNat n = Int.ofNat n,
 (0 : Nat) = 0,
 n = n,
 some n = some n,
 IntKind.i64.wrap (Int.ofNat ai + 1) = Int.ofNat (ai + 1),
 false = false,
 of + len ≤ of + len,
 LF E = LF E ∧ plainSh [CK.int IntKind.i64] = true ∨ ∀ (i : Nat), i < of + len → rowOb [CK.int IntKind.i64] 0 (LF E i) (LF E i),
 u.ln = u.ln,
 u.h = u.h,
 u.sl = u.sl,
 false = false,
 (6 : Nat) ≤ (6 : Nat),
 ∀ (i : Nat), i < 6 → rowV (CM.mk 6 6703903964971298549787012499102923063739682910296196688861780721860882015036773488400937149083451713845015929093243025426876941405973284973216824503042048 [(6, Src.nm 6), (900, Src.nm 900), (901, Src.nm 901)]) [CK.val, CK.val, CK.val] 0 (lrow fam0 2 (fagS m f n S T ai B).M ai i) (lrow 6703903964971298549787012499102923063739682910296196688861780721860882015036773488400937149083451713845015929093243025426876941405973284973216824503042048 2 (fagS m f n S T (ai + 1) (seenB E of B len)).M ai i),
 false = false,
 n ≤ n,
 BF (seenB E of B len) = BF (seenB E of B len) ∧ plainSh [CK.bool] = true ∨ ∀ (i : Nat), i < n → rowOb [CK.bool] 0 (BF (seenB E of B len) i) (BF (seenB E of B len) i),
 true = true,
 (1 : Nat) ≤ (1 : Nat),
 tabF tab = tabF tab ∧ plainSh (List.map kindOfV tab) = true ∨ ∀ (i : Nat), i < 1 → rowOb (List.map kindOfV tab) 0 (tabF tab i) (tabF tab i),
 S.st = S.st,
 S.L.c = S.L.c,
 S.L.k = S.L.k,
 S.L.a = S.L.a,
 S.L.f = S.L.f,
 S.L.w = S.L.w,
 S.L.i = S.L.i,
 S.L.d = S.L.d,
 ∀ (k : List Int), S.M k = S.M k,
 true = true,
 m ≤ m,
 f = f ∧ plainSh [CK.int IntKind.u8] = true ∨ ∀ (i : Nat), i < m → rowOb [CK.int IntKind.u8] 0 (f i) (f i),
 fapcLP n ai of len E B (lrow fam0 2 (fagS m f n S T ai B).M ai) m f S u,
 decide (Int.ofNat ai < 6) = true]) := by kernel_rfl
theorem fagc_ex (m : Nat) (f : Nat → Nat → AV) (n : Nat) (S : MS) (T : Nat → FW) (ai : Nat) (B : Nat → Bool) (of len : Nat) (E : Nat → Int) (p : PO) (u : UO) (ha : ai < 6) (hT : T ai = ⟨2, of, len, E, p, u⟩) (hn : n ≤ 60) (hle : len ≤ 1000) (hE : ∀ k, k < len → 0 ≤ E (of + k) ∧ E (of + k) < n ∧ seenB E of B k (E (of + k)).toNat = false) :
    FEx Tryd.prog foF (foU m f n) fagL (fagS m f n S T ai B) .norm (fagS m f n S T (ai + 1) (seenB E of B len)) := by
  have hG : lrow fam0 2 (fagS m f n S T ai B).M ai (0 + ai) 0 = .ss 1 900 of len none := by rw [Nat.zero_add, lrow_j (mb := foMb ⟨2, of, len, E, p, u⟩) (by show foMb (T ai) = _; rw [hT])]; rfl
  have r0 : lrow fam0 2 (fagS m f n S T ai B).M ai ai 0 = .ss 1 900 of len none := by rw [lrow_j (mb := foMb ⟨2, of, len, E, p, u⟩) (by show foMb (T ai) = _; rw [hT])]; rfl
  have r1 : lrow fam0 2 (fagS m f n S T ai B).M ai ai 1 = .nilp := by rw [lrow_j (mb := foMb ⟨2, of, len, E, p, u⟩) (by show foMb (T ai) = _; rw [hT])]; rfl
  have r2 : lrow fam0 2 (fagS m f n S T ai B).M ai ai 2 = .ptr 901 0 0 := by rw [lrow_j (mb := foMb ⟨2, of, len, E, p, u⟩) (by show foMb (T ai) = _; rw [hT])]; rfl
  have hV : ∀ (i : Nat), i < 6 → rowV (CM.mk 1000 fam0 []) [.val, .val, .val] 0 (lrow fam0 2 (fagS m f n S T ai B).M ai i) (lrow fam0 2 (fagS m f n S T ai B).M ai i) := fun i hi =>
    fam_rowsK (F := foF) (c := CM.mk 1000 fam0 []) (n' := 6) (Nat.le_refl _) (M := fun k => foMb (T k)) (M' := fun k => foMb (T k)) (j := ai) (src := fun i => lrow fam0 2 (fagS m f n S T ai B).M ai i) (fun i _ hi => ⟨foMb_ok _, rfl, fun cc => lrow_ne hi⟩)
      (fun _ => by show rowV _ [.val, .val, .val] 0 _ (fun cc => mrow 2 900 (foMb (T ai)) cc); rw [hT]; exact ⟨valV_eq r0 (valV_ss rfl), valV_eq r1 (valV_nilp), valV_eq r2 (valV_ptr (n := 901) rfl), trivial⟩) i hi
  have hrow : ∀ (i : Nat), i < 6 → rowV (CM.mk 6 fam0 [(6, Src.nm 6), (900, Src.nm 900), (901, Src.nm 901)]) [.val, .val, .val] 0 (lrow fam0 2 (fagS m f n S T ai B).M ai i) (lrow fam0 2 (fagS m f n S T (ai + 1) (seenB E of B len)).M ai i) := fun i hi =>
    fam_rowsK (F := foF) (c := CM.mk 6 fam0 [(6, Src.nm 6), (900, Src.nm 900), (901, Src.nm 901)]) (n' := 6) (Nat.le_refl _) (M := fun k => foMb (T k)) (M' := fun k => foMb (T k)) (j := ai) (src := fun i => lrow fam0 2 (fagS m f n S T ai B).M ai i) (fun i _ hi => ⟨foMb_ok _, rfl, fun cc => lrow_ne hi⟩)
      (fun _ => by show rowV _ [.val, .val, .val] 0 _ (fun cc => mrow 2 900 (foMb (T ai)) cc); rw [hT]; exact ⟨valV_eq r0 (valV_ss rfl), valV_eq r1 (valV_nilp), valV_eq r2 (valV_ptr (n := 901) rfl), trivial⟩) i hi
  have haw : IntKind.i64.wrap (Int.ofNat ai + 1) = Int.ofNat (ai + 1) := by rw [i64w (by simp; omega) (by simp; omega)]; simp
  have ha0 : decide (Int.ofNat ai < 6) = true := decide_eq_true (by simp; omega)
  have hlp : fapcLP n ai of len E B (lrow fam0 2 (fagS m f n S T ai B).M ai) m f S u := fapc_lp n ai of len E B (lrow fam0 2 (fagS m f n S T ai B).M ai) m f S u hn ha hle hV hG hE
  refine fex_loc EFo_ok foFam foSOk ai true true (mb := foMb ⟨2, of, len, E, p, u⟩) (mb' := foMb ⟨2, of, len, E, p, u⟩) (fagc_1 m f n S T ai B of len E p u) (cj ⟨rfl, rfl, rfl, rfl, rfl, rfl, rfl, (by with_reducible assumption), rfl, Nat.le_refl _, .inl ⟨rfl, rfl⟩, rfl, rfl, rfl, rfl, Nat.le_refl _, hrow, rfl, Nat.le_refl _, .inl ⟨rfl, rfl⟩, rfl, Nat.le_refl _, .inl ⟨rfl, rfl⟩, rfl, rfl, rfl, rfl, rfl, rfl, rfl, rfl, (fun _ => rfl), rfl, Nat.le_refl _, .inl ⟨rfl, rfl⟩, (by with_reducible assumption), (by with_reducible assumption), trivial⟩) foGood foGood (fun _ => ha) (by show foMb (T ai) = _; rw [hT]) (by show foMb (T ai) = _; rw [hT]) (.inl ⟨rfl, ha⟩) (fun k hk _ => ⟨hk, rfl⟩)
end Go.Proofs.YtljeiencnpnbkaaDoor
