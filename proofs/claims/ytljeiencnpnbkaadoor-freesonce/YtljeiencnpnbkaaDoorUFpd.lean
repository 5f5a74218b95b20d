/-
  FreesOnce: the second loop.
-/
import Derived.Test.YtljeiencnpnbkaaDoorUFpdDef
set_option linter.unusedSimpArgs false
set_option linter.unusedVariables false
namespace Go.Proofs.YtljeiencnpnbkaaDoor
open Go.Ev
theorem fnX_1 (m : Nat) (f : Nat → Nat → AV) (n : Nat) (S : MS) (T : Nat → FW) (ii of len : Nat) (E : Nat → Int) (p : PO) (u : UO) (kk : Nat) : roundB EFo 3000 foN (h0F foF (foU m f n)) [(900, Src.nm 900)] (locSt foF (fnS m f n S T ii kk) true (foMb (FW.mk 0 of len E p u)) ii []) [Hint.b true, Hint.a AV.nilp, Hint.a AV.nilp] (locSt foF (fmS m f n S T ii) true (foMb (FW.mk 0 of len E p u)) ii []) =
 some (Ex.exit 4, [(0 : Nat) = 0,
 m = m,
 (none : Option Nat) = none,
 Int.ofNat n = Int.ofNat n,
 (0 : Nat) = 0,
 (0 : Nat) = 0,
 (0 : Nat) = 0,
 (6 : Nat) = 6,
 some 6 = some 6,
 Int.ofNat ii = Int.ofNat ii,
 false = false,
 of + len ≤ of + len,
 LF E = LF E ∧ plainSh [CK.int IntKind.i64] = true ∨ ∀ (i : Nat), i < of + len → rowOb [CK.int IntKind.i64] 0 (LF E i) (LF E i),
 false = false,
 (6 : Nat) ≤ (6 : Nat),
 ∀ (i : Nat), i < 6 → rowV (CM.mk 6 6703903964971298549787012499102923063739682910296196688861780721860882015036773488400937149083451713845015929093243025426876941405973284973216824503042048 [(900, Src.nm 900)]) foF.sh 0 (lrow 6703903964971298549787012499102923063739682910296196688861780721860882015036773488400937149083451713845015929093243025426876941405973284973216824503042048 2 (fnS m f n S T ii kk).M ii i) (lrow 6703903964971298549787012499102923063739682910296196688861780721860882015036773488400937149083451713845015929093243025426876941405973284973216824503042048 2 (fmS m f n S T ii).M ii i),
 true = true,
 (1 : Nat) ≤ (1 : Nat),
 tabF tab = tabF tab ∧ plainSh (List.map kindOfV tab) = true ∨ ∀ (i : Nat), i < 1 → rowOb (List.map kindOfV tab) 0 (tabF tab i) (tabF tab i),
 S.st = S.st,
 S.L.c = S.L.c,
 S.L.k = S.L.k,
 S.L.a = S.L.a,
 S.L.f = S.L.f,
 S.L.w = S.L.w,
 S.L.i = S.L.i,
 S.L.d = S.L.d,
 ∀ (k : List Int), S.M k = S.M k,
 true = true,
 m ≤ m,
 f = f ∧ plainSh [CK.int IntKind.u8] = true ∨ ∀ (i : Nat), i < m → rowOb [CK.int IntKind.u8] 0 (f i) (f i),
 lrow 6703903964971298549787012499102923063739682910296196688861780721860882015036773488400937149083451713845015929093243025426876941405973284973216824503042048 2 (fnS m f n S T ii kk).M ii (0 + ii) 2 = AV.nilp,
 (0 + ii).blt 6 = true,
 (ii.blt 6 && decide (0 ≤ Int.ofNat ii)) = true,
 lrow 6703903964971298549787012499102923063739682910296196688861780721860882015036773488400937149083451713845015929093243025426876941405973284973216824503042048 2 (fnS m f n S T ii kk).M ii (0 + ii) 1 = AV.nilp,
 (0 + ii).blt 6 = true,
 (ii.blt 6 && decide (0 ≤ Int.ofNat ii)) = true,
 decide (Int.ofNat kk < 5) = true]) := by kernel_rfl
theorem fnX_ex (m : Nat) (f : Nat → Nat → AV) (n : Nat) (S : MS) (T : Nat → FW) (ii of len : Nat) (E : Nat → Int) (p : PO) (u : UO) (kk : Nat) (hj : ii < 6) (hT : T ii = ⟨0, of, len, E, p, u⟩) (hk : kk < 5) : FEx Tryd.prog foF (foU m f n) foN (fnS m f n S T ii kk) (.exit 4) (fmS m f n S T ii) := by
  have hIX : (0 + (Int.ofNat ii).toNat) = ii := by simp
  have q0 : (lrow fam0 2 (fnS m f n S T ii kk).M ii) (0 + (Int.ofNat ii).toNat) 0 = AV.ss 1 900 of len none := by rw [hIX, lrow_j (mb := foMb ⟨0, of, len, E, p, u⟩) (by show foMb (T ii) = _; rw [hT])]; rfl
  have q1 : (lrow fam0 2 (fnS m f n S T ii kk).M ii) (0 + (Int.ofNat ii).toNat) 1 = AV.nilp := by rw [hIX, lrow_j (mb := foMb ⟨0, of, len, E, p, u⟩) (by show foMb (T ii) = _; rw [hT])]; rfl
  have q2 : (lrow fam0 2 (fnS m f n S T ii kk).M ii) (0 + (Int.ofNat ii).toNat) 2 = AV.nilp := by rw [hIX, lrow_j (mb := foMb ⟨0, of, len, E, p, u⟩) (by show foMb (T ii) = _; rw [hT])]; rfl
  have r0 : (lrow fam0 2 (fnS m f n S T ii kk).M ii) ii 0 = AV.ss 1 900 of len none := by rw [lrow_j (mb := foMb ⟨0, of, len, E, p, u⟩) (by show foMb (T ii) = _; rw [hT])]; rfl
  have r1 : (lrow fam0 2 (fnS m f n S T ii kk).M ii) ii 1 = AV.nilp := by rw [lrow_j (mb := foMb ⟨0, of, len, E, p, u⟩) (by show foMb (T ii) = _; rw [hT])]; rfl
  have r2 : (lrow fam0 2 (fnS m f n S T ii kk).M ii) ii 2 = AV.nilp := by rw [lrow_j (mb := foMb ⟨0, of, len, E, p, u⟩) (by show foMb (T ii) = _; rw [hT])]; rfl
  have hjb : (0 + (Int.ofNat ii).toNat).blt 6 = true := by rw [hIX]; simpa [Nat.blt_eq] using hj
  have hjb2 : ((Int.ofNat ii).toNat.blt 6 && decide (0 ≤ Int.ofNat ii)) = true := by rw [Bool.and_eq_true]; exact ⟨by simpa [Nat.blt_eq] using hj, decide_eq_true (by simp)⟩
  have hrow : ∀ k0, k0 < 6 → rowV (CM.mk 6 fam0 [(900, Src.nm 900)]) [.val, .val, .val] 0 ((lrow fam0 2 (fnS m f n S T ii kk).M ii) k0) (lrow fam0 2 (fmS m f n S T ii).M ii k0) := fun k0 hk0 =>
    fam_rowsK (F := foF) (c := CM.mk 6 fam0 [(900, Src.nm 900)]) (n' := 6) (Nat.le_refl _) (M := fun k => foMb (T k)) (M' := fun k => foMb (T k)) (j := ii) (src := (lrow fam0 2 (fnS m f n S T ii kk).M ii)) (fun i _ hi => ⟨foMb_ok _, rfl, fun cc => lrow_ne hi⟩)
      (fun _ => by show rowV _ [.val, .val, .val] 0 _ (fun cc => mrow 2 900 (foMb (T ii)) cc); rw [hT]; exact ⟨valV_eq r0 (valV_ss rfl), valV_eq r1 (valV_nilp), valV_eq r2 (valV_nilp), trivial⟩) k0 hk0
  have hii : decide (Int.ofNat kk < 5) = true := decide_eq_true (by simp; omega)
  refine fex_loc EFo_ok foFam foSOk ii true true (mb := foMb ⟨0, of, len, E, p, u⟩) (mb' := foMb ⟨0, of, len, E, p, u⟩) (fnX_1 m f n S T ii of len E p u kk) (cj ⟨rfl, rfl, rfl, rfl, rfl, rfl, rfl, rfl, rfl, rfl, rfl, Nat.le_refl _, .inl ⟨rfl, rfl⟩, rfl, Nat.le_refl _, hrow, rfl, Nat.le_refl _, .inl ⟨rfl, rfl⟩, rfl, rfl, rfl, rfl, rfl, rfl, rfl, rfl, (fun _ => rfl), rfl, Nat.le_refl _, .inl ⟨rfl, rfl⟩, q2, hjb, hjb2, q1, hjb, hjb2, (by with_reducible assumption), trivial⟩) fnGood fmGood (fun _ => hj) (by show foMb (T ii) = _; rw [hT]) (by show foMb (T ii) = _; rw [hT]) (.inl ⟨rfl, hj⟩) (fun k hk hne => ⟨hk, rfl⟩)
theorem fnY_1 (m : Nat) (f : Nat → Nat → AV) (n : Nat) (S : MS) (T : Nat → FW) (ii of len : Nat) (E : Nat → Int) (p : PO) (u : UO) (kk : Nat) : roundB EFo 3000 foN (h0F foF (foU m f n)) [(900, Src.nm 900)] (locSt foF (fnS m f n S T ii kk) true (foMb (FW.mk 0 of len E p u)) ii []) [Hint.b false] (locSt foF (fmS m f n S T ii) true (foMb (FW.mk 0 of len E p u)) ii []) =
 some (Ex.exit 4, [(0 : Nat) = 0,
 m = m,
 (none : Option Nat) = none,
 Int.ofNat n = Int.ofNat n,
 (0 : Nat) = 0,
 (0 : Nat) = 0,
 (0 : Nat) = 0,
 (6 : Nat) = 6,
 some 6 = some 6,
 Int.ofNat ii = Int.ofNat ii,
 false = false,
 of + len ≤ of + len,
 LF E = LF E ∧ plainSh [CK.int IntKind.i64] = true ∨ ∀ (i : Nat), i < of + len → rowOb [CK.int IntKind.i64] 0 (LF E i) (LF E i),
 false = false,
 (6 : Nat) ≤ (6 : Nat),
 ∀ (i : Nat), i < 6 → rowV (CM.mk 6 6703903964971298549787012499102923063739682910296196688861780721860882015036773488400937149083451713845015929093243025426876941405973284973216824503042048 [(900, Src.nm 900)]) foF.sh 0 (lrow 6703903964971298549787012499102923063739682910296196688861780721860882015036773488400937149083451713845015929093243025426876941405973284973216824503042048 2 (fnS m f n S T ii kk).M ii i) (lrow 6703903964971298549787012499102923063739682910296196688861780721860882015036773488400937149083451713845015929093243025426876941405973284973216824503042048 2 (fmS m f n S T ii).M ii i),
 true = true,
 (1 : Nat) ≤ (1 : Nat),
 tabF tab = tabF tab ∧ plainSh (List.map kindOfV tab) = true ∨ ∀ (i : Nat), i < 1 → rowOb (List.map kindOfV tab) 0 (tabF tab i) (tabF tab i),
 S.st = S.st,
 S.L.c = S.L.c,
 S.L.k = S.L.k,
 S.L.a = S.L.a,
 S.L.f = S.L.f,
 S.L.w = S.L.w,
 S.L.i = S.L.i,
 S.L.d = S.L.d,
 ∀ (k : List Int), S.M k = S.M k,
 true = true,
 m ≤ m,
 f = f ∧ plainSh [CK.int IntKind.u8] = true ∨ ∀ (i : Nat), i < m → rowOb [CK.int IntKind.u8] 0 (f i) (f i),
 decide (Int.ofNat kk < 5) = false]) := by kernel_rfl
theorem fnY_ex (m : Nat) (f : Nat → Nat → AV) (n : Nat) (S : MS) (T : Nat → FW) (ii of len : Nat) (E : Nat → Int) (p : PO) (u : UO) (kk : Nat) (hj : ii < 6) (hT : T ii = ⟨0, of, len, E, p, u⟩) (hk : kk = 5) : FEx Tryd.prog foF (foU m f n) foN (fnS m f n S T ii kk) (.exit 4) (fmS m f n S T ii) := by
  have hIX : (0 + (Int.ofNat ii).toNat) = ii := by simp
  have q0 : (lrow fam0 2 (fnS m f n S T ii kk).M ii) (0 + (Int.ofNat ii).toNat) 0 = AV.ss 1 900 of len none := by rw [hIX, lrow_j (mb := foMb ⟨0, of, len, E, p, u⟩) (by show foMb (T ii) = _; rw [hT])]; rfl
  have q1 : (lrow fam0 2 (fnS m f n S T ii kk).M ii) (0 + (Int.ofNat ii).toNat) 1 = AV.nilp := by rw [hIX, lrow_j (mb := foMb ⟨0, of, len, E, p, u⟩) (by show foMb (T ii) = _; rw [hT])]; rfl
  have q2 : (lrow fam0 2 (fnS m f n S T ii kk).M ii) (0 + (Int.ofNat ii).toNat) 2 = AV.nilp := by rw [hIX, lrow_j (mb := foMb ⟨0, of, len, E, p, u⟩) (by show foMb (T ii) = _; rw [hT])]; rfl
  have r0 : (lrow fam0 2 (fnS m f n S T ii kk).M ii) ii 0 = AV.ss 1 900 of len none := by rw [lrow_j (mb := foMb ⟨0, of, len, E, p, u⟩) (by show foMb (T ii) = _; rw [hT])]; rfl
  have r1 : (lrow fam0 2 (fnS m f n S T ii kk).M ii) ii 1 = AV.nilp := by rw [lrow_j (mb := foMb ⟨0, of, len, E, p, u⟩) (by show foMb (T ii) = _; rw [hT])]; rfl
  have r2 : (lrow fam0 2 (fnS m f n S T ii kk).M ii) ii 2 = AV.nilp := by rw [lrow_j (mb := foMb ⟨0, of, len, E, p, u⟩) (by show foMb (T ii) = _; rw [hT])]; rfl
  have hjb : (0 + (Int.ofNat ii).toNat).blt 6 = true := by rw [hIX]; simpa [Nat.blt_eq] using hj
  have hjb2 : ((Int.ofNat ii).toNat.blt 6 && decide (0 ≤ Int.ofNat ii)) = true := by rw [Bool.and_eq_true]; exact ⟨by simpa [Nat.blt_eq] using hj, decide_eq_true (by simp)⟩
  have hrow : ∀ k0, k0 < 6 → rowV (CM.mk 6 fam0 [(900, Src.nm 900)]) [.val, .val, .val] 0 ((lrow fam0 2 (fnS m f n S T ii kk).M ii) k0) (lrow fam0 2 (fmS m f n S T ii).M ii k0) := fun k0 hk0 =>
    fam_rowsK (F := foF) (c := CM.mk 6 fam0 [(900, Src.nm 900)]) (n' := 6) (Nat.le_refl _) (M := fun k => foMb (T k)) (M' := fun k => foMb (T k)) (j := ii) (src := (lrow fam0 2 (fnS m f n S T ii kk).M ii)) (fun i _ hi => ⟨foMb_ok _, rfl, fun cc => lrow_ne hi⟩)
      (fun _ => by show rowV _ [.val, .val, .val] 0 _ (fun cc => mrow 2 900 (foMb (T ii)) cc); rw [hT]; exact ⟨valV_eq r0 (valV_ss rfl), valV_eq r1 (valV_nilp), valV_eq r2 (valV_nilp), trivial⟩) k0 hk0
  have hii : decide (Int.ofNat kk < 5) = false := decide_eq_false (by simp; omega)
  refine fex_loc EFo_ok foFam foSOk ii true true (mb := foMb ⟨0, of, len, E, p, u⟩) (mb' := foMb ⟨0, of, len, E, p, u⟩) (fnY_1 m f n S T ii of len E p u kk) (cj ⟨rfl, rfl, rfl, rfl, rfl, rfl, rfl, rfl, rfl, rfl, rfl, Nat.le_refl _, .inl ⟨rfl, rfl⟩, rfl, Nat.le_refl _, hrow, rfl, Nat.le_refl _, .inl ⟨rfl, rfl⟩, rfl, rfl, rfl, rfl, rfl, rfl, rfl, rfl, (fun _ => rfl), rfl, Nat.le_refl _, .inl ⟨rfl, rfl⟩, (by with_reducible assumption), trivial⟩) fnGood fmGood (fun _ => hj) (by show foMb (T ii) = _; rw [hT]) (by show foMb (T ii) = _; rw [hT]) (.inl ⟨rfl, hj⟩) (fun k hk hne => ⟨hk, rfl⟩)
theorem fmJ_1 (m : Nat) (f : Nat → Nat → AV) (n : Nat) (S : MS) (T : Nat → FW) (ii of len : Nat) (E : Nat → Int) (p : PO) (u : UO) (kk : Nat) : roundB EFo 3000 fmI (h0F foF (foU m f n)) [(900, Src.nm 900)] (locSt foF (fmS m f n S T ii) true (foMb (FW.mk 0 of len E p u)) ii []) [Hint.a AV.nilp, Hint.a AV.nilp] (locSt foF (fmS m f n S T ii) true (foMb (FW.mk 0 of len E p u)) ii []) =
 some (Ex.norm, [(0 : Nat) = 0,
 m = m,
 (none : Option Nat) = none,
 Int.ofNat n = Int.ofNat n,
 (0 : Nat) = 0,
 (0 : Nat) = 0,
 (0 : Nat) = 0,
 (6 : Nat) = 6,
 some 6 = some 6,
 Int.ofNat ii = Int.ofNat ii,
 false = false,
 of + len ≤ of + len,
 LF E = LF E ∧ plainSh [CK.int IntKind.i64] = true ∨ ∀ (i : Nat), i < of + len → rowOb [CK.int IntKind.i64] 0 (LF E i) (LF E i),
 false = false,
 (6 : Nat) ≤ (6 : Nat),
 ∀ (i : Nat), i < 6 → rowV (CM.mk 6 6703903964971298549787012499102923063739682910296196688861780721860882015036773488400937149083451713845015929093243025426876941405973284973216824503042048 [(900, Src.nm 900)]) foF.sh 0 (lrow 6703903964971298549787012499102923063739682910296196688861780721860882015036773488400937149083451713845015929093243025426876941405973284973216824503042048 2 (fmS m f n S T ii).M ii i) (lrow 6703903964971298549787012499102923063739682910296196688861780721860882015036773488400937149083451713845015929093243025426876941405973284973216824503042048 2 (fmS m f n S T ii).M ii i),
 true = true,
 (1 : Nat) ≤ (1 : Nat),
 tabF tab = tabF tab ∧ plainSh (List.map kindOfV tab) = true ∨ ∀ (i : Nat), i < 1 → rowOb (List.map kindOfV tab) 0 (tabF tab i) (tabF tab i),
 S.st = S.st,
 S.L.c = S.L.c,
 S.L.k = S.L.k,
 S.L.a = S.L.a,
 S.L.f = S.L.f,
 S.L.w = S.L.w,
 S.L.i = S.L.i,
 S.L.d = S.L.d,
 ∀ (k : List Int), S.M k = S.M k,
 true = true,
 m ≤ m,
 f = f ∧ plainSh [CK.int IntKind.u8] = true ∨ ∀ (i : Nat), i < m → rowOb [CK.int IntKind.u8] 0 (f i) (f i),
 lrow 6703903964971298549787012499102923063739682910296196688861780721860882015036773488400937149083451713845015929093243025426876941405973284973216824503042048 2 (fmS m f n S T ii).M ii (0 + ii) 2 = AV.nilp,
 (0 + ii).blt 6 = true,
 (ii.blt 6 && decide (0 ≤ Int.ofNat ii)) = true,
 lrow 6703903964971298549787012499102923063739682910296196688861780721860882015036773488400937149083451713845015929093243025426876941405973284973216824503042048 2 (fmS m f n S T ii).M ii (0 + ii) 1 = AV.nilp,
 (0 + ii).blt 6 = true,
 (ii.blt 6 && decide (0 ≤ Int.ofNat ii)) = true]) := by kernel_rfl
theorem fmJ_ex (m : Nat) (f : Nat → Nat → AV) (n : Nat) (S : MS) (T : Nat → FW) (ii of len : Nat) (E : Nat → Int) (p : PO) (u : UO) (kk : Nat) (hj : ii < 6) (hT : T ii = ⟨0, of, len, E, p, u⟩)  : FEx Tryd.prog foF (foU m f n) fmI (fmS m f n S T ii) .norm (fmS m f n S T ii) := by
  have hIX : (0 + (Int.ofNat ii).toNat) = ii := by simp
  have q0 : (lrow fam0 2 (fmS m f n S T ii).M ii) (0 + (Int.ofNat ii).toNat) 0 = AV.ss 1 900 of len none := by rw [hIX, lrow_j (mb := foMb ⟨0, of, len, E, p, u⟩) (by show foMb (T ii) = _; rw [hT])]; rfl
  have q1 : (lrow fam0 2 (fmS m f n S T ii).M ii) (0 + (Int.ofNat ii).toNat) 1 = AV.nilp := by rw [hIX, lrow_j (mb := foMb ⟨0, of, len, E, p, u⟩) (by show foMb (T ii) = _; rw [hT])]; rfl
  have q2 : (lrow fam0 2 (fmS m f n S T ii).M ii) (0 + (Int.ofNat ii).toNat) 2 = AV.nilp := by rw [hIX, lrow_j (mb := foMb ⟨0, of, len, E, p, u⟩) (by show foMb (T ii) = _; rw [hT])]; rfl
  have r0 : (lrow fam0 2 (fmS m f n S T ii).M ii) ii 0 = AV.ss 1 900 of len none := by rw [lrow_j (mb := foMb ⟨0, of, len, E, p, u⟩) (by show foMb (T ii) = _; rw [hT])]; rfl
  have r1 : (lrow fam0 2 (fmS m f n S T ii).M ii) ii 1 = AV.nilp := by rw [lrow_j (mb := foMb ⟨0, of, len, E, p, u⟩) (by show foMb (T ii) = _; rw [hT])]; rfl
  have r2 : (lrow fam0 2 (fmS m f n S T ii).M ii) ii 2 = AV.nilp := by rw [lrow_j (mb := foMb ⟨0, of, len, E, p, u⟩) (by show foMb (T ii) = _; rw [hT])]; rfl
  have hjb : (0 + (Int.ofNat ii).toNat).blt 6 = true := by rw [hIX]; simpa [Nat.blt_eq] using hj
  have hjb2 : ((Int.ofNat ii).toNat.blt 6 && decide (0 ≤ Int.ofNat ii)) = true := by rw [Bool.and_eq_true]; exact ⟨by simpa [Nat.blt_eq] using hj, decide_eq_true (by simp)⟩
  have hrow : ∀ k0, k0 < 6 → rowV (CM.mk 6 fam0 [(900, Src.nm 900)]) [.val, .val, .val] 0 ((lrow fam0 2 (fmS m f n S T ii).M ii) k0) (lrow fam0 2 (fmS m f n S T ii).M ii k0) := fun k0 hk0 =>
    fam_rowsK (F := foF) (c := CM.mk 6 fam0 [(900, Src.nm 900)]) (n' := 6) (Nat.le_refl _) (M := fun k => foMb (T k)) (M' := fun k => foMb (T k)) (j := ii) (src := (lrow fam0 2 (fmS m f n S T ii).M ii)) (fun i _ hi => ⟨foMb_ok _, rfl, fun cc => lrow_ne hi⟩)
      (fun _ => by show rowV _ [.val, .val, .val] 0 _ (fun cc => mrow 2 900 (foMb (T ii)) cc); rw [hT]; exact ⟨valV_eq r0 (valV_ss rfl), valV_eq r1 (valV_nilp), valV_eq r2 (valV_nilp), trivial⟩) k0 hk0
  refine fex_loc EFo_ok foFam foSOk ii true true (mb := foMb ⟨0, of, len, E, p, u⟩) (mb' := foMb ⟨0, of, len, E, p, u⟩) (fmJ_1 m f n S T ii of len E p u kk) (cj ⟨rfl, rfl, rfl, rfl, rfl, rfl, rfl, rfl, rfl, rfl, rfl, Nat.le_refl _, .inl ⟨rfl, rfl⟩, rfl, Nat.le_refl _, hrow, rfl, Nat.le_refl _, .inl ⟨rfl, rfl⟩, rfl, rfl, rfl, rfl, rfl, rfl, rfl, rfl, (fun _ => rfl), rfl, Nat.le_refl _, .inl ⟨rfl, rfl⟩, q2, hjb, hjb2, q1, hjb, hjb2, trivial⟩) fmGood fmGood (fun _ => hj) (by show foMb (T ii) = _; rw [hT]) (by show foMb (T ii) = _; rw [hT]) (.inl ⟨rfl, hj⟩) (fun k hk hne => ⟨hk, rfl⟩)
theorem fmp_1 (m : Nat) (f : Nat → Nat → AV) (n : Nat) (S : MS) (T : Nat → FW) (ii kk : Nat) : roundB EFo 3000 fmP (h0F foF (foU m f n)) [] (locSt foF (fmS m f n S T ii) false (foMb (T 6)) 6 []) [Hint.b true] (locSt foF (fmS m f n S T ii) false (foMb (T 6)) 6 []) =
 some (Ex.norm, [(0 : Nat) = 0,
 m = m,
 (none : Option Nat) = none,
 Int.ofNat n = Int.ofNat n,
 (0 : Nat) = 0,
 (0 : Nat) = 0,
 (0 : Nat) = 0,
 (6 : Nat) = 6,
 some 6 = some 6,
 Int.ofNat ii = Int.ofNat ii,
 false = false,
 (6 : Nat) ≤ (6 : Nat),
 ∀ (i : Nat), i < 6 → rowV (CM.mk 6 6703903964971298549787012499102923063739682910296196688861780721860882015036773488400937149083451713845015929093243025426876941405973284973216824503042048 []) foF.sh 0 (lrow 6703903964971298549787012499102923063739682910296196688861780721860882015036773488400937149083451713845015929093243025426876941405973284973216824503042048 2 (fmS m f n S T ii).M 6 i) (lrow 6703903964971298549787012499102923063739682910296196688861780721860882015036773488400937149083451713845015929093243025426876941405973284973216824503042048 2 (fmS m f n S T ii).M 6 i),
 true = true,
 (1 : Nat) ≤ (1 : Nat),
 tabF tab = tabF tab ∧ plainSh (List.map kindOfV tab) = true ∨ ∀ (i : Nat), i < 1 → rowOb (List.map kindOfV tab) 0 (tabF tab i) (tabF tab i),
 S.st = S.st,
 S.L.c = S.L.c,
 S.L.k = S.L.k,
 S.L.a = S.L.a,
 S.L.f = S.L.f,
 S.L.w = S.L.w,
 S.L.i = S.L.i,
 S.L.d = S.L.d,
 ∀ (k : List Int), S.M k = S.M k,
 true = true,
 m ≤ m,
 f = f ∧ plainSh [CK.int IntKind.u8] = true ∨ ∀ (i : Nat), i < m → rowOb [CK.int IntKind.u8] 0 (f i) (f i),
 decide (Int.ofNat ii < 6) = true]) := by kernel_rfl
theorem fmp_ex (m : Nat) (f : Nat → Nat → AV) (n : Nat) (S : MS) (T : Nat → FW) (ii kk : Nat) (h : ii < 6) : FEx Tryd.prog foF (foU m f n) fmP (fmS m f n S T ii) .norm (fmS m f n S T ii) := by
  have hii : decide (Int.ofNat ii < 6) = true := decide_eq_true (by simp; omega)
  refine fex_loc EFo_ok foFam foSOk 6 false false (mb := foMb (T 6)) (mb' := foMb (T 6)) (fmp_1 m f n S T ii kk) (cj ⟨rfl, rfl, rfl, rfl, rfl, rfl, rfl, rfl, rfl, rfl, rfl, Nat.le_refl _, fa_rows6 (Nat.le_refl _) T, rfl, Nat.le_refl _, .inl ⟨rfl, rfl⟩, rfl, rfl, rfl, rfl, rfl, rfl, rfl, rfl, (fun _ => rfl), rfl, Nat.le_refl _, .inl ⟨rfl, rfl⟩, (by with_reducible assumption), trivial⟩) fmGood fmGood (fun h => by cases h) rfl rfl (.inr ⟨rfl, Nat.le_refl _⟩) (fun k hk _ => ⟨hk, rfl⟩)
theorem fmk_1 (m : Nat) (f : Nat → Nat → AV) (n : Nat) (S : MS) (T : Nat → FW) (ii kk : Nat) : roundB EFo 3000 fmK (h0F foF (foU m f n)) [] (locSt foF (fmS m f n S T ii) false (foMb (T 6)) 6 []) [] (locSt foF (fnS m f n S T ii 0) false (foMb (T 6)) 6 []) =
 some (Ex.norm, [(0 : Nat) = 0,
 m = m,
 (none : Option Nat) = none,
 Int.ofNat n = Int.ofNat n,
 (0 : Nat) = 0,
 (0 : Nat) = 0,
 (0 : Nat) = 0,
 (6 : Nat) = 6,
 some 6 = some 6,
 Int.ofNat ii = Int.ofNat ii,
 (0 : Int) = 0,
 false = false,
 (6 : Nat) ≤ (6 : Nat),
 ∀ (i : Nat), i < 6 → rowV (CM.mk 6 6703903964971298549787012499102923063739682910296196688861780721860882015036773488400937149083451713845015929093243025426876941405973284973216824503042048 []) foF.sh 0 (lrow 6703903964971298549787012499102923063739682910296196688861780721860882015036773488400937149083451713845015929093243025426876941405973284973216824503042048 2 (fmS m f n S T ii).M 6 i) (lrow 6703903964971298549787012499102923063739682910296196688861780721860882015036773488400937149083451713845015929093243025426876941405973284973216824503042048 2 (fnS m f n S T ii 0).M 6 i),
 true = true,
 (1 : Nat) ≤ (1 : Nat),
 tabF tab = tabF tab ∧ plainSh (List.map kindOfV tab) = true ∨ ∀ (i : Nat), i < 1 → rowOb (List.map kindOfV tab) 0 (tabF tab i) (tabF tab i),
 S.st = S.st,
 S.L.c = S.L.c,
 S.L.k = S.L.k,
 S.L.a = S.L.a,
 S.L.f = S.L.f,
 S.L.w = S.L.w,
 S.L.i = S.L.i,
 S.L.d = S.L.d,
 ∀ (k : List Int), S.M k = S.M k,
 true = true,
 m ≤ m,
 f = f ∧ plainSh [CK.int IntKind.u8] = true ∨ ∀ (i : Nat), i < m → rowOb [CK.int IntKind.u8] 0 (f i) (f i)]) := by kernel_rfl
theorem fmk_ex (m : Nat) (f : Nat → Nat → AV) (n : Nat) (S : MS) (T : Nat → FW) (ii kk : Nat)  : FEx Tryd.prog foF (foU m f n) fmK (fmS m f n S T ii) .norm (fnS m f n S T ii 0) := by
  refine fex_loc EFo_ok foFam foSOk 6 false false (mb := foMb (T 6)) (mb' := foMb (T 6)) (fmk_1 m f n S T ii kk) (cj ⟨rfl, rfl, rfl, rfl, rfl, rfl, rfl, rfl, rfl, rfl, rfl, rfl, Nat.le_refl _, fa_rows6 (Nat.le_refl _) T, rfl, Nat.le_refl _, .inl ⟨rfl, rfl⟩, rfl, rfl, rfl, rfl, rfl, rfl, rfl, rfl, (fun _ => rfl), rfl, Nat.le_refl _, .inl ⟨rfl, rfl⟩, trivial⟩) fmGood fnGood (fun h => by cases h) rfl rfl (.inr ⟨rfl, Nat.le_refl _⟩) (fun k hk _ => ⟨hk, rfl⟩)
theorem fmz_1 (m : Nat) (f : Nat → Nat → AV) (n : Nat) (S : MS) (T : Nat → FW) (ii kk : Nat) : roundB EFo 3000 fmZ (h0F foF (foU m f n)) [] (locSt foF (fmS m f n S T ii) false (foMb (T 6)) 6 []) [] (locSt foF (fmS m f n S T (ii + 1)) false (foMb (T 6)) 6 []) =
 some (Ex.norm, [(0 : Nat) = 0,
 m = m,
 (none : Option Nat) = none,
 Int.ofNat n = Int.ofNat n,
 (0 : Nat) = 0,
 (0 : Nat) = 0,
 (0 : Nat) = 0,
 (6 : Nat) = 6,
 some 6 = some 6,
 IntKind.i64.wrap (Int.ofNat ii + 1) = Int.ofNat (ii + 1),
 false = false,
 (6 : Nat) ≤ (6 : Nat),
 ∀ (i : Nat), i < 6 → rowV (CM.mk 6 6703903964971298549787012499102923063739682910296196688861780721860882015036773488400937149083451713845015929093243025426876941405973284973216824503042048 []) foF.sh 0 (lrow 6703903964971298549787012499102923063739682910296196688861780721860882015036773488400937149083451713845015929093243025426876941405973284973216824503042048 2 (fmS m f n S T ii).M 6 i) (lrow 6703903964971298549787012499102923063739682910296196688861780721860882015036773488400937149083451713845015929093243025426876941405973284973216824503042048 2 (fmS m f n S T (ii + 1)).M 6 i),
 true = true,
 (1 : Nat) ≤ (1 : Nat),
 tabF tab = tabF tab ∧ plainSh (List.map kindOfV tab) = true ∨ ∀ (i : Nat), i < 1 → rowOb (List.map kindOfV tab) 0 (tabF tab i) (tabF tab i),
 S.st = S.st,
 S.L.c = S.L.c,
 S.L.k = S.L.k,
 S.L.a = S.L.a,
 S.L.f = S.L.f,
 S.L.w = S.L.w,
 S.L.i = S.L.i,
 S.L.d = S.L.d,
 ∀ (k : List Int), S.M k = S.M k,
 true = true,
 m ≤ m,
 f = f ∧ plainSh [CK.int IntKind.u8] = true ∨ ∀ (i : Nat), i < m → rowOb [CK.int IntKind.u8] 0 (f i) (f i)]) := by kernel_rfl
theorem fmz_ex (m : Nat) (f : Nat → Nat → AV) (n : Nat) (S : MS) (T : Nat → FW) (ii kk : Nat) (h : ii < 1000) : FEx Tryd.prog foF (foU m f n) fmZ (fmS m f n S T ii) .norm (fmS m f n S T (ii + 1)) := by
  have hiw : IntKind.i64.wrap (Int.ofNat ii + 1) = Int.ofNat (ii + 1) := by rw [i64w (by simp; omega) (by simp; omega)]; simp
  refine fex_loc EFo_ok foFam foSOk 6 false false (mb := foMb (T 6)) (mb' := foMb (T 6)) (fmz_1 m f n S T ii kk) (cj ⟨rfl, rfl, rfl, rfl, rfl, rfl, rfl, rfl, rfl, (by with_reducible assumption), rfl, Nat.le_refl _, fa_rows6 (Nat.le_refl _) T, rfl, Nat.le_refl _, .inl ⟨rfl, rfl⟩, rfl, rfl, rfl, rfl, rfl, rfl, rfl, rfl, (fun _ => rfl), rfl, Nat.le_refl _, .inl ⟨rfl, rfl⟩, trivial⟩) fmGood fmGood (fun h => by cases h) rfl rfl (.inr ⟨rfl, Nat.le_refl _⟩) (fun k hk _ => ⟨hk, rfl⟩)
theorem fmx_1 (m : Nat) (f : Nat → Nat → AV) (n : Nat) (S : MS) (T : Nat → FW) (ii kk : Nat) : roundB EFo 3000 foM (h0F foF (foU m f n)) [] (locSt foF (fmS m f n S T 6) false (foMb (T 6)) 6 []) [Hint.b false] (locSt foF (flE m f n S T) false (foMb (T 6)) 6 []) =
 some (Ex.exit 2, [(0 : Nat) = 0,
 m = m,
 (none : Option Nat) = none,
 Int.ofNat n = Int.ofNat n,
 (0 : Nat) = 0,
 (0 : Nat) = 0,
 (0 : Nat) = 0,
 (6 : Nat) = 6,
 some 6 = some 6,
 false = false,
 (6 : Nat) ≤ (6 : Nat),
 ∀ (i : Nat), i < 6 → rowV (CM.mk 6 6703903964971298549787012499102923063739682910296196688861780721860882015036773488400937149083451713845015929093243025426876941405973284973216824503042048 []) foF.sh 0 (lrow 6703903964971298549787012499102923063739682910296196688861780721860882015036773488400937149083451713845015929093243025426876941405973284973216824503042048 2 (fmS m f n S T 6).M 6 i) (lrow 6703903964971298549787012499102923063739682910296196688861780721860882015036773488400937149083451713845015929093243025426876941405973284973216824503042048 2 (flE m f n S T).M 6 i),
 true = true,
 (1 : Nat) ≤ (1 : Nat),
 tabF tab = tabF tab ∧ plainSh (List.map kindOfV tab) = true ∨ ∀ (i : Nat), i < 1 → rowOb (List.map kindOfV tab) 0 (tabF tab i) (tabF tab i),
 S.st = S.st,
 S.L.c = S.L.c,
 S.L.k = S.L.k,
 S.L.a = S.L.a,
 S.L.f = S.L.f,
 S.L.w = S.L.w,
 S.L.i = S.L.i,
 S.L.d = S.L.d,
 ∀ (k : List Int), S.M k = S.M k,
 true = true,
 m ≤ m,
 f = f ∧ plainSh [CK.int IntKind.u8] = true ∨ ∀ (i : Nat), i < m → rowOb [CK.int IntKind.u8] 0 (f i) (f i),
 decide ((6 : Int) < (6 : Int)) = false]) := by kernel_rfl
theorem fmx_ex (m : Nat) (f : Nat → Nat → AV) (n : Nat) (S : MS) (T : Nat → FW) (ii kk : Nat)  : FEx Tryd.prog foF (foU m f n) foM (fmS m f n S T 6) (.exit 2) (flE m f n S T) := by
  refine fex_loc EFo_ok foFam foSOk 6 false false (mb := foMb (T 6)) (mb' := foMb (T 6)) (fmx_1 m f n S T ii kk) (cj ⟨rfl, rfl, rfl, rfl, rfl, rfl, rfl, rfl, rfl, rfl, Nat.le_refl _, fa_rows6 (Nat.le_refl _) T, rfl, Nat.le_refl _, .inl ⟨rfl, rfl⟩, rfl, rfl, rfl, rfl, rfl, rfl, rfl, rfl, (fun _ => rfl), rfl, Nat.le_refl _, .inl ⟨rfl, rfl⟩, rfl, trivial⟩) fmGood flGoodE (fun h => by cases h) rfl rfl (.inr ⟨rfl, Nat.le_refl _⟩) (fun k hk _ => ⟨hk, rfl⟩)
theorem updW_self (T : Nat → FW) (k : Nat) : updW T k (T k) = T := by
  funext q; unfold updW; by_cases c : q = k
  · rw [if_pos c, c]
  · rw [if_neg c]
/-- One thread goes on, alone, till it is idle. -/
theorem fn_loop {m : Nat} {f : Nat → Nat → AV} {n : Nat} {S0 : MS} {T : Nat → FW} {i B : Nat} (hi : i < 6) (hB : B ≤ 90000) (h0 : WI n S0 T B) :
    ∃ y, (∃ S w, y = fmS m f n S (updW T i w) i ∧ WI n S (updW T i w) (B + 5) ∧ w.t = 0) ∧ FEx Tryd.prog foF (foU m f n) (.loop foN) (fnS m f n S0 T i 0) (.exit 4) y := by
  have key := fex_loopE (P := Tryd.prog) (F := foF) (s0 := foU m f n) (c := foN) (e := .exit 4) (X := Nat × MS × FW) (fun v => fnS m f n v.2.1 (updW T i v.2.2) i v.1) (fun v => 6 - v.1) (fun v => v.1 ≤ 5 ∧ WI n v.2.1 (updW T i v.2.2) (B + v.1) ∧ wMu v.2.1 v.2.2 + v.1 ≤ 5) (fun y => ∃ S w, y = fmS m f n S (updW T i w) i ∧ WI n S (updW T i w) (B + 5) ∧ w.t = 0) (by simp) (fun v hv => ?_) (0, S0, T i) ⟨Nat.zero_le _, by rw [updW_self]; exact h0, wMu_le _ _⟩
  · simp only [updW_self] at key; exact key
  obtain ⟨k, S, w⟩ := v
  obtain ⟨hk, hW, hM⟩ := hv
  simp only at hk hW hM ⊢
  have ht : w.t ≤ 2 := by have := hW.t2 hi; rw [updW_eq] at this; exact this
  have hlen : w.len ≤ B + k := by have := hW.lenB hi; rw [updW_eq] at this; exact this
  have hu := hW.u64
  have hT : updW T i w i = w := updW_eq _ _ _
  obtain ⟨t, of, len, E, p, u⟩ := w
  simp only at ht hlen
  match t, ht with
  | 0, _ =>
    right
    refine ⟨_, ⟨S, _, rfl, hW.mono (by omega), rfl⟩, ?_⟩
    by_cases c : k < 5
    · exact fnX_ex m f n S _ i of len E p u k hi hT c
    · exact fnY_ex m f n S _ i of len E p u k hi hT (by omega)
  | 1, _ =>
    left
    have hpo := hW.po hi hT rfl
    have hp := hW.pop hi hT rfl (by omega)
    have hM' : pMu S p + k ≤ 5 := hM
    have hk5 : k < 5 := by have := hp.2.2.2; omega
    simp only [updW_upd] at hp
    by_cases hz : (popX S p).ln = 0
    · cases hk : (popX S p).ok with
      | true =>
        have e := ftC2_ex m f n S _ i i of len E p u k hk5 hi (by simp) (by simp) hT hu hpo hz hk (by omega)
        rw [updW_upd] at e
        exact ⟨(k + 1, _, ⟨0, 0, len + 1, apE E of len (popX S p).sl, p, u⟩), ⟨by show k + 1 ≤ 5; omega, hp.2.1 hz hk p u, by show 0 + (k + 1) ≤ 5; omega⟩, by show 6 - (k + 1) < 6 - k; omega, e⟩
      | false =>
        have e := ftC3_ex m f n S _ i i of len E p u k hk5 hi (by simp) (by simp) hT hu hpo hz hk
        rw [updW_upd] at e
        exact ⟨(k + 1, _, ⟨0, of, len, E, p, u⟩), ⟨by show k + 1 ≤ 5; omega, hp.2.2.1 hz hk p u, by show 0 + (k + 1) ≤ 5; omega⟩, by show 6 - (k + 1) < 6 - k; omega, e⟩
    · have e := ftC1_ex m f n S _ i i of len E p u k hk5 hi (by simp) (by simp) hT hu hpo hz
      rw [updW_upd] at e
      exact ⟨(k + 1, _, ⟨1, of, len, E, popX S p, u⟩), ⟨by show k + 1 ≤ 5; omega, (hp.1 hz).1, by have := (hp.1 hz).2; show pMu (popY S p) (popX S p) + (k + 1) ≤ 5; omega⟩, by show 6 - (k + 1) < 6 - k; omega, e⟩
  | 2, _ =>
    left
    have huo := hW.uo hi hT rfl
    have hp := hW.push hi hT rfl (by omega)
    have hM' : uMu S u + k ≤ 5 := hM
    have hk5 : k < 5 := by have := hp.2.2; omega
    simp only [updW_upd] at hp
    by_cases hz : (pshX S u).ln = 0
    · have e := ftD2_ex m f n S _ i i of len E p u k hk5 hi (by simp) (by simp) hT hu huo hz
      rw [updW_upd] at e
      exact ⟨(k + 1, _, ⟨0, of, len, E, p, u⟩), ⟨by show k + 1 ≤ 5; omega, hp.2.1 hz p u, by show 0 + (k + 1) ≤ 5; omega⟩, by show 6 - (k + 1) < 6 - k; omega, e⟩
    · have e := ftD1_ex m f n S _ i i of len E p u k hk5 hi (by simp) (by simp) hT hu huo hz
      rw [updW_upd] at e
      exact ⟨(k + 1, _, ⟨2, of, len, E, p, pshX S u⟩), ⟨by show k + 1 ≤ 5; omega, (hp.1 hz).1, by have := (hp.1 hz).2; show uMu (pshY S u) (pshX S u) + (k + 1) ≤ 5; omega⟩, by show 6 - (k + 1) < 6 - k; omega, e⟩
  | t + 3, ht => exact absurd ht (by show ¬ t + 3 ≤ 2; omega)
theorem fl_loop2 {m : Nat} {f : Nat → Nat → AV} {n : Nat} {S0 : MS} {T0 : Nat → FW} {B : Nat} (hB : B ≤ 1000) (h0 : WI n S0 T0 B) :
    ∃ y, (∃ S T, y = flE m f n S T ∧ WI n S T (B + 30) ∧ ∀ k, k < 6 → (T k).t = 0) ∧ FEx Tryd.prog foF (foU m f n) (.loop foM) (fmS m f n S0 T0 0) (.exit 2) y := by
  refine fex_loopE (e := .exit 2) (X := Nat × MS × (Nat → FW)) (fun v => fmS m f n v.2.1 v.2.2 v.1) (fun v => 6 - v.1) (fun v => v.1 ≤ 6 ∧ WI n v.2.1 v.2.2 (B + 5 * v.1) ∧ ∀ k, k < v.1 → (v.2.2 k).t = 0) (fun y => ∃ S T, y = flE m f n S T ∧ WI n S T (B + 30) ∧ ∀ k, k < 6 → (T k).t = 0) (by simp) (fun v hv => ?_) (0, S0, T0) ⟨Nat.zero_le _, h0, fun k hk => absurd hk (Nat.not_lt_zero k)⟩
  obtain ⟨i, S, T⟩ := v
  obtain ⟨hi, hW, hz⟩ := hv
  simp only at hi hW hz ⊢
  by_cases c : i < 6
  · left
    obtain ⟨y, ⟨S', w, rfl, hW', hw⟩, hl⟩ := fn_loop (m := m) (f := f) c (by omega) hW
    refine ⟨(i + 1, S', updW T i w), ⟨c, hW'.mono (by show B + 5 * i + 5 ≤ B + 5 * (i + 1); omega), fun k hk => ?_⟩, by show 6 - (i + 1) < 6 - i; omega, ?_⟩
    · show (updW T i w k).t = 0
      by_cases d : k = i
      · subst d; rw [updW_eq]; exact hw
      · rw [updW_ne _ d]; exact hz k (by have : k < i + 1 := hk; omega)
    · rw [foM_eq]
      obtain ⟨t, of, len, E, p, u⟩ := w
      have hw : t = 0 := hw
      subst hw
      exact fex_seq (fmp_ex m f n S T i 0 c) (fex_seq (fex_blockN (fex_seq (fex_seq (fmk_ex m f n S T i 0) (fex_block hl)) (fmJ_ex m f n S' _ i of len E p u 0 c (updW_eq _ _ _)))) (fmz_ex m f n S' _ i 0 (by omega)))
  · right
    obtain rfl : i = 6 := by omega
    exact ⟨_, ⟨S, T, rfl, hW, hz⟩, fmx_ex m f n S T 0 0⟩

end Go.Proofs.YtljeiencnpnbkaaDoor
