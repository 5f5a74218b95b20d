/-
  FreesOnce: a step in the second loop.
-/
import Derived.Test.YtljeiencnpnbkaaDoorUFpcDef0
set_option linter.unusedSimpArgs false
set_option linter.unusedVariables false
namespace Go.Proofs.YtljeiencnpnbkaaDoor
open Go.Ev
theorem ftC1_1 (m : Nat) (f : Nat → Nat → AV) (n : Nat) (S : MS) (T : Nat → FW) (ii j of len : Nat) (E : Nat → Int) (p : PO) (u : UO) (kk : Nat) : roundB EFo 3000 foN (h0F foF (foU m f n)) [(900, Src.nm 900), (901, Src.nm 901)] (locSt foF (fnS m f n S T ii kk) true (foMb (FW.mk 1 of len E p u)) j []) [Hint.b true, Hint.a (AV.ptr 901 0 0), Hint.a (AV.ptr 901 0 0), Hint.a (AV.ptr 901 0 0), Hint.a (AV.ptr 901 0 0), Hint.b false] (locSt foF (fnS m f n (popY S p) (updW T j (FW.mk 1 of len E (popX S p) u)) ii (kk + 1)) true (foMb (FW.mk 1 of len E (popX S p) u)) j []) =
 some (Ex.norm, [(0 : Nat) = 0,
 m = m,
 (none : Option Nat) = none,
 Int.ofNat n = Int.ofNat n,
 (0 : Nat) = 0,
 (0 : Nat) = 0,
 (0 : Nat) = 0,
 (6 : Nat) = 6,
 some 6 = some 6,
 Int.ofNat ii = Int.ofNat ii,
 IntKind.i64.wrap (Int.ofNat kk + 1) = Int.ofNat (kk + 1),
 false = false,
 of + len ≤ of + len,
 LF E = LF E ∧ plainSh [CK.int IntKind.i64] = true ∨ ∀ (i : Nat), i < of + len → rowOb [CK.int IntKind.i64] 0 (LF E i) (LF E i),
 (popX S p).ln = (popX S p).ln,
 (popX S p).h = (popX S p).h,
 (popX S p).nx = (popX S p).nx,
 (popX S p).sl = (popX S p).sl,
 (popX S p).ok = (popX S p).ok,
 false = false,
 (6 : Nat) ≤ (6 : Nat),
 ∀ (i : Nat), i < 6 → rowV (CM.mk 6 6703903964971298549787012499102923063739682910296196688861780721860882015036773488400937149083451713845015929093243025426876941405973284973216824503042048 [(900, Src.nm 900), (901, Src.nm 901)]) foF.sh 0 (lrow 6703903964971298549787012499102923063739682910296196688861780721860882015036773488400937149083451713845015929093243025426876941405973284973216824503042048 2 (fnS m f n S T ii kk).M j i) (lrow 6703903964971298549787012499102923063739682910296196688861780721860882015036773488400937149083451713845015929093243025426876941405973284973216824503042048 2 (fnS m f n (popY S p) (updW T j (FW.mk 1 of len E (popX S p) u)) ii (kk + 1)).M j i),
 true = true,
 (1 : Nat) ≤ (1 : Nat),
 tabF tab = tabF tab ∧ plainSh (List.map kindOfV tab) = true ∨ ∀ (i : Nat), i < 1 → rowOb (List.map kindOfV tab) 0 (tabF tab i) (tabF tab i),
 (popY S p).st = (popY S p).st,
 (popY S p).L.c = (popY S p).L.c,
 (popY S p).L.k = (popY S p).L.k,
 (popY S p).L.a = (popY S p).L.a,
 (popY S p).L.f = (popY S p).L.f,
 (popY S p).L.w = (popY S p).L.w,
 (popY S p).L.i = (popY S p).L.i,
 (popY S p).L.d = (popY S p).L.d,
 ∀ (k : List Int), (popY S p).M k = (popY S p).M k,
 true = true,
 m ≤ m,
 f = f ∧ plainSh [CK.int IntKind.u8] = true ∨ ∀ (i : Nat), i < m → rowOb [CK.int IntKind.u8] 0 (f i) (f i),
 decide ((popX S p).ln = 0) = false,
 tabF tab = tabF tab,
 U64 S,
 Ln3 p.ln,
 R64 p.h,
 lrow 6703903964971298549787012499102923063739682910296196688861780721860882015036773488400937149083451713845015929093243025426876941405973284973216824503042048 2 (fnS m f n S T ii kk).M j (0 + ii) 1 = AV.ptr 901 0 0,
 (0 + ii).blt 6 = true,
 lrow 6703903964971298549787012499102923063739682910296196688861780721860882015036773488400937149083451713845015929093243025426876941405973284973216824503042048 2 (fnS m f n S T ii kk).M j (0 + ii) 1 = AV.ptr 901 0 0,
 (0 + ii).blt 6 = true,
 lrow 6703903964971298549787012499102923063739682910296196688861780721860882015036773488400937149083451713845015929093243025426876941405973284973216824503042048 2 (fnS m f n S T ii kk).M j (0 + ii) 1 = AV.ptr 901 0 0,
 (0 + ii).blt 6 = true,
 (ii.blt 6 && decide (0 ≤ Int.ofNat ii)) = true,
 lrow 6703903964971298549787012499102923063739682910296196688861780721860882015036773488400937149083451713845015929093243025426876941405973284973216824503042048 2 (fnS m f n S T ii kk).M j (0 + ii) 1 = AV.ptr 901 0 0,
 (0 + ii).blt 6 = true,
 (ii.blt 6 && decide (0 ≤ Int.ofNat ii)) = true,
 decide (Int.ofNat kk < 5) = true]) := by kernel_rfl
theorem ftC1_ex (m : Nat) (f : Nat → Nat → AV) (n : Nat) (S : MS) (T : Nat → FW) (ii j of len : Nat) (E : Nat → Int) (p : PO) (u : UO) (kk : Nat) (hk5 : kk < 5) (hj : j < 6) (hr0 : 0 ≤ Int.ofNat ii) (hjt : (Int.ofNat ii).toNat = j) (hT : T j = ⟨1, of, len, E, p, u⟩) (hu : U64 S) (hpo : PoOk p) (hz : (popX S p).ln ≠ 0) : FEx Tryd.prog foF (foU m f n) foN (fnS m f n S T ii kk) .norm (fnS m f n (popY S p) (updW T j ⟨1, of, len, E, popX S p, u⟩) ii (kk + 1)) := by
  have hIX : (0 + (Int.ofNat ii).toNat) = j := by rw [Nat.zero_add]; exact hjt
  have hii1 : decide (Int.ofNat kk < 5) = true := decide_eq_true (by simp; omega)
  have hii2 : IntKind.i64.wrap (Int.ofNat kk + 1) = Int.ofNat (kk + 1) := by rw [i64w (by simp; omega) (by simp; omega)]; simp
  have hjb : (0 + (Int.ofNat ii).toNat).blt 6 = true := by rw [hIX]; simpa [Nat.blt_eq] using hj
  have hjb2 : ((Int.ofNat ii).toNat.blt 6 && decide (0 ≤ Int.ofNat ii)) = true := by rw [Bool.and_eq_true, hjt]; exact ⟨by simpa [Nat.blt_eq] using hj, decide_eq_true hr0⟩
  have hjt' : ii = j := by simpa using hjt
  have hz1 : decide ((popX S p).ln = 0) = false := decide_eq_false hz
  have po1 := hpo.l
  have po2 := hpo.h
  have q0 : (lrow fam0 2 (fnS m f n S T ii kk).M j) (0 + (Int.ofNat ii).toNat) 0 = AV.ss 1 900 of len none := by rw [hIX, lrow_j (mb := foMb ⟨1, of, len, E, p, u⟩) (by show foMb (T j) = _; rw [hT])]; rfl
  have q1 : (lrow fam0 2 (fnS m f n S T ii kk).M j) (0 + (Int.ofNat ii).toNat) 1 = AV.ptr 901 0 0 := by rw [hIX, lrow_j (mb := foMb ⟨1, of, len, E, p, u⟩) (by show foMb (T j) = _; rw [hT])]; rfl
  have q2 : (lrow fam0 2 (fnS m f n S T ii kk).M j) (0 + (Int.ofNat ii).toNat) 2 = AV.nilp := by rw [hIX, lrow_j (mb := foMb ⟨1, of, len, E, p, u⟩) (by show foMb (T j) = _; rw [hT])]; rfl
  have r0 : (lrow fam0 2 (fnS m f n S T ii kk).M j) j 0 = AV.ss 1 900 of len none := by rw [lrow_j (mb := foMb ⟨1, of, len, E, p, u⟩) (by show foMb (T j) = _; rw [hT])]; rfl
  have r1 : (lrow fam0 2 (fnS m f n S T ii kk).M j) j 1 = AV.ptr 901 0 0 := by rw [lrow_j (mb := foMb ⟨1, of, len, E, p, u⟩) (by show foMb (T j) = _; rw [hT])]; rfl
  have r2 : (lrow fam0 2 (fnS m f n S T ii kk).M j) j 2 = AV.nilp := by rw [lrow_j (mb := foMb ⟨1, of, len, E, p, u⟩) (by show foMb (T j) = _; rw [hT])]; rfl
  have c0 : (lrow fam0 2 (fnS m f n S T ii kk).M j) j 0 = AV.ss 1 900 of len none := by exact r0
  have c1 : (lrow fam0 2 (fnS m f n S T ii kk).M j) j 1 = AV.ptr 901 0 0 := by exact r1
  have c2 : (lrow fam0 2 (fnS m f n S T ii kk).M j) j 2 = AV.nilp := by exact r2
  have hrow : ∀ k0, k0 < 6 → rowV (CM.mk 6 fam0 [(900, Src.nm 900), (901, Src.nm 901)]) [.val, .val, .val] 0 ((lrow fam0 2 (fnS m f n S T ii kk).M j) k0) (lrow fam0 2 (fnS m f n (popY S p) (updW T j ⟨1, of, len, E, popX S p, u⟩) ii (kk + 1)).M j k0) := fun k0 hk0 =>
    fam_rowsK (F := foF) (c := CM.mk 6 fam0 [(900, Src.nm 900), (901, Src.nm 901)]) (n' := 6) (Nat.le_refl _) (M := fun k => foMb (T k)) (M' := fun k => foMb (updW T j ⟨1, of, len, E, popX S p, u⟩ k)) (j := j) (src := (lrow fam0 2 (fnS m f n S T ii kk).M j)) (fun i _ hi => ⟨foMb_ok _, by show foMb (if i = j then _ else T i) = _; rw [if_neg hi], fun cc => by exact lrow_ne hi⟩)
      (fun _ => by show rowV _ [.val, .val, .val] 0 _ (fun cc => mrow 2 900 (foMb (if j = j then _ else T j)) cc); rw [if_pos rfl]; exact ⟨valV_eq c0 (valV_ss rfl), valV_eq c1 (valV_ptr (n := 901) rfl), valV_eq c2 (valV_nilp), trivial⟩) k0 hk0
  refine fex_loc EFo_ok foFam foSOk j true true (mb := foMb ⟨1, of, len, E, p, u⟩) (mb' := foMb ⟨1, of, len, E, popX S p, u⟩) (ftC1_1 m f n S T ii j of len E p u kk) (cj ⟨rfl, rfl, rfl, rfl, rfl, rfl, rfl, rfl, rfl, rfl, (by with_reducible assumption), rfl, Nat.le_refl _, .inl ⟨rfl, rfl⟩, rfl, rfl, rfl, rfl, rfl, rfl, Nat.le_refl _, hrow, rfl, Nat.le_refl _, .inl ⟨rfl, rfl⟩, rfl, rfl, rfl, rfl, rfl, rfl, rfl, rfl, (fun _ => rfl), rfl, Nat.le_refl _, .inl ⟨rfl, rfl⟩, (by with_reducible assumption), rfl, (by with_reducible assumption), (by with_reducible assumption), (by with_reducible assumption), q1, hjb, q1, hjb, q1, hjb, hjb2, q1, hjb, hjb2, (by with_reducible assumption), trivial⟩) fnGood fnGood (fun _ => hj) (by show foMb (T j) = _; rw [hT]) (by show foMb (if j = j then _ else _) = _; rw [if_pos rfl]) (.inl ⟨rfl, hj⟩) (fun k hk hne => ⟨hk, by show foMb (if k = j then _ else T k) = foMb (T k); rw [if_neg hne]⟩)
theorem ftC2_1 (m : Nat) (f : Nat → Nat → AV) (n : Nat) (S : MS) (T : Nat → FW) (ii j of len : Nat) (E : Nat → Int) (p : PO) (u : UO) (kk : Nat) : roundB EFo 3000 foN (h0F foF (foU m f n)) [(900, Src.nm 1022934564967544334379121780258624735067700639388457746713528552530041811376460798401021903851845049109652088789862522190380392670589185329165164872671)] (locSt foF (fnS m f n S T ii kk) true (foMb (FW.mk 1 of len E p u)) j []) [Hint.b true, Hint.a (AV.ptr 901 0 0), Hint.a (AV.ptr 901 0 0), Hint.a (AV.ptr 901 0 0), Hint.a (AV.ptr 901 0 0), Hint.b true, Hint.a (AV.ptr 901 0 0), Hint.b true, Hint.a (AV.ss 1 900 of len none)] (locSt foF (fnS m f n (popY S p) (updW T j (FW.mk 0 0 (len + 1) (apE E of len (popX S p).sl) p u)) ii (kk + 1)) true (foMb (FW.mk 0 0 (len + 1) (apE E of len (popX S p).sl) p u)) j []) =
 some (Ex.norm, [(0 : Nat) = 0,
 m = m,
 (none : Option Nat) = none,
 Int.ofNat n = Int.ofNat n,
 (0 : Nat) = 0,
 (0 : Nat) = 0,
 (0 : Nat) = 0,
 (6 : Nat) = 6,
 some 6 = some 6,
 Int.ofNat ii = Int.ofNat ii,
 IntKind.i64.wrap (Int.ofNat kk + 1) = Int.ofNat (kk + 1),
 false = false,
 0 + (len + 1) ≤ len + 1,
 (LF (apE E of len (popX S p).sl) = fun i j => if i < len then LF E (of + i) j else rowsOf 1 [AV.sym IntKind.i64 (popX S p).sl] (i - len) j) ∧ plainSh [CK.int IntKind.i64] = true ∨ ∀ (i : Nat), i < 0 + (len + 1) → rowOb [CK.int IntKind.i64] 0 (fun j => if i < len then LF E (of + i) j else rowsOf 1 [AV.sym IntKind.i64 (popX S p).sl] (i - len) j) (LF (apE E of len (popX S p).sl) i),
 false = false,
 (6 : Nat) ≤ (6 : Nat),
 ∀ (i : Nat), i < 6 → rowV (CM.mk 6 6703903964971298549787012499102923063739682910296196688861780721860882015036773488400937149083451713845015929093243025426876941405973284973216824503042048 [(900, Src.nm 1022934564967544334379121780258624735067700639388457746713528552530041811376460798401021903851845049109652088789862522190380392670589185329165164872671)]) foF.sh 0 (upd (upd (lrow 6703903964971298549787012499102923063739682910296196688861780721860882015036773488400937149083451713845015929093243025426876941405973284973216824503042048 2 (fnS m f n S T ii kk).M j) (0 + ii) 0 (AV.ss 1 1022934564967544334379121780258624735067700639388457746713528552530041811376460798401021903851845049109652088789862522190380392670589185329165164872671 0 (len + 1) none).cells) (0 + ii) 1 (ofVal (Value.pointer none)).cells i) (lrow 6703903964971298549787012499102923063739682910296196688861780721860882015036773488400937149083451713845015929093243025426876941405973284973216824503042048 2 (fnS m f n (popY S p) (updW T j (FW.mk 0 0 (len + 1) (apE E of len (popX S p).sl) p u)) ii (kk + 1)).M j i),
 true = true,
 (1 : Nat) ≤ (1 : Nat),
 tabF tab = tabF tab ∧ plainSh (List.map kindOfV tab) = true ∨ ∀ (i : Nat), i < 1 → rowOb (List.map kindOfV tab) 0 (tabF tab i) (tabF tab i),
 (popY S p).st = (popY S p).st,
 (popY S p).L.c = (popY S p).L.c,
 (popY S p).L.k = (popY S p).L.k,
 (popY S p).L.a = (popY S p).L.a,
 (popY S p).L.f = (popY S p).L.f,
 (popY S p).L.w = (popY S p).L.w,
 (popY S p).L.i = (popY S p).L.i,
 (popY S p).L.d = (popY S p).L.d,
 ∀ (k : List Int), (popY S p).M k = (popY S p).M k,
 true = true,
 m ≤ m,
 f = f ∧ plainSh [CK.int IntKind.u8] = true ∨ ∀ (i : Nat), i < m → rowOb [CK.int IntKind.u8] 0 (f i) (f i),
 (0 + ii).blt 6 = true,
 (0 + ii).blt 6 = true,
 ((len + 1) * 8).ble 70368744177664 = true,
 (of + len).ble (of + len) = true,
 lrow 6703903964971298549787012499102923063739682910296196688861780721860882015036773488400937149083451713845015929093243025426876941405973284973216824503042048 2 (fnS m f n S T ii kk).M j (0 + ii) 0 = AV.ss 1 900 of len none,
 (0 + ii).blt 6 = true,
 (popX S p).ok = true,
 lrow 6703903964971298549787012499102923063739682910296196688861780721860882015036773488400937149083451713845015929093243025426876941405973284973216824503042048 2 (fnS m f n S T ii kk).M j (0 + ii) 1 = AV.ptr 901 0 0,
 (0 + ii).blt 6 = true,
 decide ((popX S p).ln = 0) = true,
 tabF tab = tabF tab,
 U64 S,
 Ln3 p.ln,
 R64 p.h,
 lrow 6703903964971298549787012499102923063739682910296196688861780721860882015036773488400937149083451713845015929093243025426876941405973284973216824503042048 2 (fnS m f n S T ii kk).M j (0 + ii) 1 = AV.ptr 901 0 0,
 (0 + ii).blt 6 = true,
 lrow 6703903964971298549787012499102923063739682910296196688861780721860882015036773488400937149083451713845015929093243025426876941405973284973216824503042048 2 (fnS m f n S T ii kk).M j (0 + ii) 1 = AV.ptr 901 0 0,
 (0 + ii).blt 6 = true,
 lrow 6703903964971298549787012499102923063739682910296196688861780721860882015036773488400937149083451713845015929093243025426876941405973284973216824503042048 2 (fnS m f n S T ii kk).M j (0 + ii) 1 = AV.ptr 901 0 0,
 (0 + ii).blt 6 = true,
 (ii.blt 6 && decide (0 ≤ Int.ofNat ii)) = true,
 lrow 6703903964971298549787012499102923063739682910296196688861780721860882015036773488400937149083451713845015929093243025426876941405973284973216824503042048 2 (fnS m f n S T ii kk).M j (0 + ii) 1 = AV.ptr 901 0 0,
 (0 + ii).blt 6 = true,
 (ii.blt 6 && decide (0 ≤ Int.ofNat ii)) = true,
 decide (Int.ofNat kk < 5) = true]) := by kernel_rfl
theorem ftC2_ex (m : Nat) (f : Nat → Nat → AV) (n : Nat) (S : MS) (T : Nat → FW) (ii j of len : Nat) (E : Nat → Int) (p : PO) (u : UO) (kk : Nat) (hk5 : kk < 5) (hj : j < 6) (hr0 : 0 ≤ Int.ofNat ii) (hjt : (Int.ofNat ii).toNat = j) (hT : T j = ⟨1, of, len, E, p, u⟩) (hu : U64 S) (hpo : PoOk p) (hz : (popX S p).ln = 0) (hk : (popX S p).ok = true) (hle : len ≤ 1000000) : FEx Tryd.prog foF (foU m f n) foN (fnS m f n S T ii kk) .norm (fnS m f n (popY S p) (updW T j ⟨0, 0, len + 1, apE E of len (popX S p).sl, p, u⟩) ii (kk + 1)) := by
  have hIX : (0 + (Int.ofNat ii).toNat) = j := by rw [Nat.zero_add]; exact hjt
  have hii1 : decide (Int.ofNat kk < 5) = true := decide_eq_true (by simp; omega)
  have hii2 : IntKind.i64.wrap (Int.ofNat kk + 1) = Int.ofNat (kk + 1) := by rw [i64w (by simp; omega) (by simp; omega)]; simp
  have hjb : (0 + (Int.ofNat ii).toNat).blt 6 = true := by rw [hIX]; simpa [Nat.blt_eq] using hj
  have hjb2 : ((Int.ofNat ii).toNat.blt 6 && decide (0 ≤ Int.ofNat ii)) = true := by rw [Bool.and_eq_true, hjt]; exact ⟨by simpa [Nat.blt_eq] using hj, decide_eq_true hr0⟩
  have hjt' : ii = j := by simpa using hjt
  have hz1 : decide ((popX S p).ln = 0) = true := decide_eq_true hz
  have po1 := hpo.l
  have po2 := hpo.h
  have hrows := ap_rows (E := E) (of := of) (len := len) (s := (popX S p).sl)
  have q0 : (lrow fam0 2 (fnS m f n S T ii kk).M j) (0 + (Int.ofNat ii).toNat) 0 = AV.ss 1 900 of len none := by rw [hIX, lrow_j (mb := foMb ⟨1, of, len, E, p, u⟩) (by show foMb (T j) = _; rw [hT])]; rfl
  have q1 : (lrow fam0 2 (fnS m f n S T ii kk).M j) (0 + (Int.ofNat ii).toNat) 1 = AV.ptr 901 0 0 := by rw [hIX, lrow_j (mb := foMb ⟨1, of, len, E, p, u⟩) (by show foMb (T j) = _; rw [hT])]; rfl
  have q2 : (lrow fam0 2 (fnS m f n S T ii kk).M j) (0 + (Int.ofNat ii).toNat) 2 = AV.nilp := by rw [hIX, lrow_j (mb := foMb ⟨1, of, len, E, p, u⟩) (by show foMb (T j) = _; rw [hT])]; rfl
  have r0 : (lrow fam0 2 (fnS m f n S T ii kk).M j) j 0 = AV.ss 1 900 of len none := by rw [lrow_j (mb := foMb ⟨1, of, len, E, p, u⟩) (by show foMb (T j) = _; rw [hT])]; rfl
  have r1 : (lrow fam0 2 (fnS m f n S T ii kk).M j) j 1 = AV.ptr 901 0 0 := by rw [lrow_j (mb := foMb ⟨1, of, len, E, p, u⟩) (by show foMb (T j) = _; rw [hT])]; rfl
  have r2 : (lrow fam0 2 (fnS m f n S T ii kk).M j) j 2 = AV.nilp := by rw [lrow_j (mb := foMb ⟨1, of, len, E, p, u⟩) (by show foMb (T j) = _; rw [hT])]; rfl
  have c0 : (upd (upd (lrow fam0 2 (fnS m f n S T ii kk).M j) (0 + (Int.ofNat ii).toNat) 0 [.ss 1 1022934564967544334379121780258624735067700639388457746713528552530041811376460798401021903851845049109652088789862522190380392670589185329165164872671 0 (len + 1) none]) (0 + (Int.ofNat ii).toNat) 1 [.nilp]) j 0 = AV.ss 1 1022934564967544334379121780258624735067700639388457746713528552530041811376460798401021903851845049109652088789862522190380392670589185329165164872671 0 (len + 1) none := by rw [hIX]; simp [upd, nth]
  have c1 : (upd (upd (lrow fam0 2 (fnS m f n S T ii kk).M j) (0 + (Int.ofNat ii).toNat) 0 [.ss 1 1022934564967544334379121780258624735067700639388457746713528552530041811376460798401021903851845049109652088789862522190380392670589185329165164872671 0 (len + 1) none]) (0 + (Int.ofNat ii).toNat) 1 [.nilp]) j 1 = AV.nilp := by rw [hIX]; simp [upd, nth]
  have c2 : (upd (upd (lrow fam0 2 (fnS m f n S T ii kk).M j) (0 + (Int.ofNat ii).toNat) 0 [.ss 1 1022934564967544334379121780258624735067700639388457746713528552530041811376460798401021903851845049109652088789862522190380392670589185329165164872671 0 (len + 1) none]) (0 + (Int.ofNat ii).toNat) 1 [.nilp]) j 2 = AV.nilp := by rw [hIX]; simp [upd, nth, r2]
  have hrow : ∀ k0, k0 < 6 → rowV (CM.mk 6 fam0 [(900, Src.nm 1022934564967544334379121780258624735067700639388457746713528552530041811376460798401021903851845049109652088789862522190380392670589185329165164872671)]) [.val, .val, .val] 0 ((upd (upd (lrow fam0 2 (fnS m f n S T ii kk).M j) (0 + (Int.ofNat ii).toNat) 0 [.ss 1 1022934564967544334379121780258624735067700639388457746713528552530041811376460798401021903851845049109652088789862522190380392670589185329165164872671 0 (len + 1) none]) (0 + (Int.ofNat ii).toNat) 1 [.nilp]) k0) (lrow fam0 2 (fnS m f n (popY S p) (updW T j ⟨0, 0, len + 1, apE E of len (popX S p).sl, p, u⟩) ii (kk + 1)).M j k0) := fun k0 hk0 =>
    fam_rowsK (F := foF) (c := CM.mk 6 fam0 [(900, Src.nm 1022934564967544334379121780258624735067700639388457746713528552530041811376460798401021903851845049109652088789862522190380392670589185329165164872671)]) (n' := 6) (Nat.le_refl _) (M := fun k => foMb (T k)) (M' := fun k => foMb (updW T j ⟨0, 0, len + 1, apE E of len (popX S p).sl, p, u⟩ k)) (j := j) (src := (upd (upd (lrow fam0 2 (fnS m f n S T ii kk).M j) (0 + (Int.ofNat ii).toNat) 0 [.ss 1 1022934564967544334379121780258624735067700639388457746713528552530041811376460798401021903851845049109652088789862522190380392670589185329165164872671 0 (len + 1) none]) (0 + (Int.ofNat ii).toNat) 1 [.nilp])) (fun i _ hi => ⟨foMb_ok _, by show foMb (if i = j then _ else T i) = _; rw [if_neg hi], fun cc => by rw [hIX]; simp [upd, hi]; exact lrow_ne hi⟩)
      (fun _ => by show rowV _ [.val, .val, .val] 0 _ (fun cc => mrow 2 900 (foMb (if j = j then _ else T j)) cc); rw [if_pos rfl]; exact ⟨valV_eq c0 (valV_ss rfl), valV_eq c1 (valV_nilp), valV_eq c2 (valV_nilp), trivial⟩) k0 hk0
  refine fex_loc EFo_ok foFam foSOk j true true (mb := foMb ⟨1, of, len, E, p, u⟩) (mb' := foMb ⟨0, 0, len + 1, apE E of len (popX S p).sl, p, u⟩) (ftC2_1 m f n S T ii j of len E p u kk) (cj ⟨rfl, rfl, rfl, rfl, rfl, rfl, rfl, rfl, rfl, rfl, (by with_reducible assumption), rfl, (by (simp [upd, nth, q0, q1, q2]; done)), .inr hrows, rfl, Nat.le_refl _, hrow, rfl, Nat.le_refl _, .inl ⟨rfl, rfl⟩, rfl, rfl, rfl, rfl, rfl, rfl, rfl, rfl, (fun _ => rfl), rfl, Nat.le_refl _, .inl ⟨rfl, rfl⟩, hjb, hjb, (by (simp; omega)), (by (simp [upd, nth, q0, q1, q2]; done)), q0, hjb, (by with_reducible assumption), q1, hjb, (by with_reducible assumption), rfl, (by with_reducible assumption), (by with_reducible assumption), (by with_reducible assumption), q1, hjb, q1, hjb, q1, hjb, hjb2, q1, hjb, hjb2, (by with_reducible assumption), trivial⟩) fnGood fnGood (fun _ => hj) (by show foMb (T j) = _; rw [hT]) (by show foMb (if j = j then _ else _) = _; rw [if_pos rfl]) (.inl ⟨rfl, hj⟩) (fun k hk hne => ⟨hk, by show foMb (if k = j then _ else T k) = foMb (T k); rw [if_neg hne]⟩)
theorem ftC3_1 (m : Nat) (f : Nat → Nat → AV) (n : Nat) (S : MS) (T : Nat → FW) (ii j of len : Nat) (E : Nat → Int) (p : PO) (u : UO) (kk : Nat) : roundB EFo 3000 foN (h0F foF (foU m f n)) [(900, Src.nm 900)] (locSt foF (fnS m f n S T ii kk) true (foMb (FW.mk 1 of len E p u)) j []) [Hint.b true, Hint.a (AV.ptr 901 0 0), Hint.a (AV.ptr 901 0 0), Hint.a (AV.ptr 901 0 0), Hint.a (AV.ptr 901 0 0), Hint.b true, Hint.a (AV.ptr 901 0 0), Hint.b false] (locSt foF (fnS m f n (popY S p) (updW T j (FW.mk 0 of len E p u)) ii (kk + 1)) true (foMb (FW.mk 0 of len E p u)) j []) =
 some (Ex.norm, [(0 : Nat) = 0,
 m = m,
 (none : Option Nat) = none,
 Int.ofNat n = Int.ofNat n,
 (0 : Nat) = 0,
 (0 : Nat) = 0,
 (0 : Nat) = 0,
 (6 : Nat) = 6,
 some 6 = some 6,
 Int.ofNat ii = Int.ofNat ii,
 IntKind.i64.wrap (Int.ofNat kk + 1) = Int.ofNat (kk + 1),
 false = false,
 of + len ≤ of + len,
 LF E = LF E ∧ plainSh [CK.int IntKind.i64] = true ∨ ∀ (i : Nat), i < of + len → rowOb [CK.int IntKind.i64] 0 (LF E i) (LF E i),
 false = false,
 (6 : Nat) ≤ (6 : Nat),
 ∀ (i : Nat), i < 6 → rowV (CM.mk 6 6703903964971298549787012499102923063739682910296196688861780721860882015036773488400937149083451713845015929093243025426876941405973284973216824503042048 [(900, Src.nm 900)]) foF.sh 0 (upd (lrow 6703903964971298549787012499102923063739682910296196688861780721860882015036773488400937149083451713845015929093243025426876941405973284973216824503042048 2 (fnS m f n S T ii kk).M j) (0 + ii) 1 (ofVal (Value.pointer none)).cells i) (lrow 6703903964971298549787012499102923063739682910296196688861780721860882015036773488400937149083451713845015929093243025426876941405973284973216824503042048 2 (fnS m f n (popY S p) (updW T j (FW.mk 0 of len E p u)) ii (kk + 1)).M j i),
 true = true,
 (1 : Nat) ≤ (1 : Nat),
 tabF tab = tabF tab ∧ plainSh (List.map kindOfV tab) = true ∨ ∀ (i : Nat), i < 1 → rowOb (List.map kindOfV tab) 0 (tabF tab i) (tabF tab i),
 (popY S p).st = (popY S p).st,
 (popY S p).L.c = (popY S p).L.c,
 (popY S p).L.k = (popY S p).L.k,
 (popY S p).L.a = (popY S p).L.a,
 (popY S p).L.f = (popY S p).L.f,
 (popY S p).L.w = (popY S p).L.w,
 (popY S p).L.i = (popY S p).L.i,
 (popY S p).L.d = (popY S p).L.d,
 ∀ (k : List Int), (popY S p).M k = (popY S p).M k,
 true = true,
 m ≤ m,
 f = f ∧ plainSh [CK.int IntKind.u8] = true ∨ ∀ (i : Nat), i < m → rowOb [CK.int IntKind.u8] 0 (f i) (f i),
 (0 + ii).blt 6 = true,
 (popX S p).ok = false,
 lrow 6703903964971298549787012499102923063739682910296196688861780721860882015036773488400937149083451713845015929093243025426876941405973284973216824503042048 2 (fnS m f n S T ii kk).M j (0 + ii) 1 = AV.ptr 901 0 0,
 (0 + ii).blt 6 = true,
 decide ((popX S p).ln = 0) = true,
 tabF tab = tabF tab,
 U64 S,
 Ln3 p.ln,
 R64 p.h,
 lrow 6703903964971298549787012499102923063739682910296196688861780721860882015036773488400937149083451713845015929093243025426876941405973284973216824503042048 2 (fnS m f n S T ii kk).M j (0 + ii) 1 = AV.ptr 901 0 0,
 (0 + ii).blt 6 = true,
 lrow 6703903964971298549787012499102923063739682910296196688861780721860882015036773488400937149083451713845015929093243025426876941405973284973216824503042048 2 (fnS m f n S T ii kk).M j (0 + ii) 1 = AV.ptr 901 0 0,
 (0 + ii).blt 6 = true,
 lrow 6703903964971298549787012499102923063739682910296196688861780721860882015036773488400937149083451713845015929093243025426876941405973284973216824503042048 2 (fnS m f n S T ii kk).M j (0 + ii) 1 = AV.ptr 901 0 0,
 (0 + ii).blt 6 = true,
 (ii.blt 6 && decide (0 ≤ Int.ofNat ii)) = true,
 lrow 6703903964971298549787012499102923063739682910296196688861780721860882015036773488400937149083451713845015929093243025426876941405973284973216824503042048 2 (fnS m f n S T ii kk).M j (0 + ii) 1 = AV.ptr 901 0 0,
 (0 + ii).blt 6 = true,
 (ii.blt 6 && decide (0 ≤ Int.ofNat ii)) = true,
 decide (Int.ofNat kk < 5) = true]) := by kernel_rfl
theorem ftC3_ex (m : Nat) (f : Nat → Nat → AV) (n : Nat) (S : MS) (T : Nat → FW) (ii j of len : Nat) (E : Nat → Int) (p : PO) (u : UO) (kk : Nat) (hk5 : kk < 5) (hj : j < 6) (hr0 : 0 ≤ Int.ofNat ii) (hjt : (Int.ofNat ii).toNat = j) (hT : T j = ⟨1, of, len, E, p, u⟩) (hu : U64 S) (hpo : PoOk p) (hz : (popX S p).ln = 0) (hk : (popX S p).ok = false) : FEx Tryd.prog foF (foU m f n) foN (fnS m f n S T ii kk) .norm (fnS m f n (popY S p) (updW T j ⟨0, of, len, E, p, u⟩) ii (kk + 1)) := by
  have hIX : (0 + (Int.ofNat ii).toNat) = j := by rw [Nat.zero_add]; exact hjt
  have hii1 : decide (Int.ofNat kk < 5) = true := decide_eq_true (by simp; omega)
  have hii2 : IntKind.i64.wrap (Int.ofNat kk + 1) = Int.ofNat (kk + 1) := by rw [i64w (by simp; omega) (by simp; omega)]; simp
  have hjb : (0 + (Int.ofNat ii).toNat).blt 6 = true := by rw [hIX]; simpa [Nat.blt_eq] using hj
  have hjb2 : ((Int.ofNat ii).toNat.blt 6 && decide (0 ≤ Int.ofNat ii)) = true := by rw [Bool.and_eq_true, hjt]; exact ⟨by simpa [Nat.blt_eq] using hj, decide_eq_true hr0⟩
  have hjt' : ii = j := by simpa using hjt
  have hz1 : decide ((popX S p).ln = 0) = true := decide_eq_true hz
  have po1 := hpo.l
  have po2 := hpo.h
  have q0 : (lrow fam0 2 (fnS m f n S T ii kk).M j) (0 + (Int.ofNat ii).toNat) 0 = AV.ss 1 900 of len none := by rw [hIX, lrow_j (mb := foMb ⟨1, of, len, E, p, u⟩) (by show foMb (T j) = _; rw [hT])]; rfl
  have q1 : (lrow fam0 2 (fnS m f n S T ii kk).M j) (0 + (Int.ofNat ii).toNat) 1 = AV.ptr 901 0 0 := by rw [hIX, lrow_j (mb := foMb ⟨1, of, len, E, p, u⟩) (by show foMb (T j) = _; rw [hT])]; rfl
  have q2 : (lrow fam0 2 (fnS m f n S T ii kk).M j) (0 + (Int.ofNat ii).toNat) 2 = AV.nilp := by rw [hIX, lrow_j (mb := foMb ⟨1, of, len, E, p, u⟩) (by show foMb (T j) = _; rw [hT])]; rfl
  have r0 : (lrow fam0 2 (fnS m f n S T ii kk).M j) j 0 = AV.ss 1 900 of len none := by rw [lrow_j (mb := foMb ⟨1, of, len, E, p, u⟩) (by show foMb (T j) = _; rw [hT])]; rfl
  have r1 : (lrow fam0 2 (fnS m f n S T ii kk).M j) j 1 = AV.ptr 901 0 0 := by rw [lrow_j (mb := foMb ⟨1, of, len, E, p, u⟩) (by show foMb (T j) = _; rw [hT])]; rfl
  have r2 : (lrow fam0 2 (fnS m f n S T ii kk).M j) j 2 = AV.nilp := by rw [lrow_j (mb := foMb ⟨1, of, len, E, p, u⟩) (by show foMb (T j) = _; rw [hT])]; rfl
  have c0 : (upd (lrow fam0 2 (fnS m f n S T ii kk).M j) (0 + (Int.ofNat ii).toNat) 1 [.nilp]) j 0 = AV.ss 1 900 of len none := by rw [hIX]; simp [upd, nth, r0]
  have c1 : (upd (lrow fam0 2 (fnS m f n S T ii kk).M j) (0 + (Int.ofNat ii).toNat) 1 [.nilp]) j 1 = AV.nilp := by rw [hIX]; simp [upd, nth]
  have c2 : (upd (lrow fam0 2 (fnS m f n S T ii kk).M j) (0 + (Int.ofNat ii).toNat) 1 [.nilp]) j 2 = AV.nilp := by rw [hIX]; simp [upd, nth, r2]
  have hrow : ∀ k0, k0 < 6 → rowV (CM.mk 6 fam0 [(900, Src.nm 900)]) [.val, .val, .val] 0 ((upd (lrow fam0 2 (fnS m f n S T ii kk).M j) (0 + (Int.ofNat ii).toNat) 1 [.nilp]) k0) (lrow fam0 2 (fnS m f n (popY S p) (updW T j ⟨0, of, len, E, p, u⟩) ii (kk + 1)).M j k0) := fun k0 hk0 =>
    fam_rowsK (F := foF) (c := CM.mk 6 fam0 [(900, Src.nm 900)]) (n' := 6) (Nat.le_refl _) (M := fun k => foMb (T k)) (M' := fun k => foMb (updW T j ⟨0, of, len, E, p, u⟩ k)) (j := j) (src := (upd (lrow fam0 2 (fnS m f n S T ii kk).M j) (0 + (Int.ofNat ii).toNat) 1 [.nilp])) (fun i _ hi => ⟨foMb_ok _, by show foMb (if i = j then _ else T i) = _; rw [if_neg hi], fun cc => by rw [hIX]; simp [upd, hi]; exact lrow_ne hi⟩)
      (fun _ => by show rowV _ [.val, .val, .val] 0 _ (fun cc => mrow 2 900 (foMb (if j = j then _ else T j)) cc); rw [if_pos rfl]; exact ⟨valV_eq c0 (valV_ss rfl), valV_eq c1 (valV_nilp), valV_eq c2 (valV_nilp), trivial⟩) k0 hk0
  refine fex_loc EFo_ok foFam foSOk j true true (mb := foMb ⟨1, of, len, E, p, u⟩) (mb' := foMb ⟨0, of, len, E, p, u⟩) (ftC3_1 m f n S T ii j of len E p u kk) (cj ⟨rfl, rfl, rfl, rfl, rfl, rfl, rfl, rfl, rfl, rfl, (by with_reducible assumption), rfl, Nat.le_refl _, .inl ⟨rfl, rfl⟩, rfl, Nat.le_refl _, hrow, rfl, Nat.le_refl _, .inl ⟨rfl, rfl⟩, rfl, rfl, rfl, rfl, rfl, rfl, rfl, rfl, (fun _ => rfl), rfl, Nat.le_refl _, .inl ⟨rfl, rfl⟩, hjb, (by with_reducible assumption), q1, hjb, (by with_reducible assumption), rfl, (by with_reducible assumption), (by with_reducible assumption), (by with_reducible assumption), q1, hjb, q1, hjb, q1, hjb, hjb2, q1, hjb, hjb2, (by with_reducible assumption), trivial⟩) fnGood fnGood (fun _ => hj) (by show foMb (T j) = _; rw [hT]) (by show foMb (if j = j then _ else _) = _; rw [if_pos rfl]) (.inl ⟨rfl, hj⟩) (fun k hk hne => ⟨hk, by show foMb (if k = j then _ else T k) = foMb (T k); rw [if_neg hne]⟩)
theorem ftD1_1 (m : Nat) (f : Nat → Nat → AV) (n : Nat) (S : MS) (T : Nat → FW) (ii j of len : Nat) (E : Nat → Int) (p : PO) (u : UO) (kk : Nat) : roundB EFo 3000 foN (h0F foF (foU m f n)) [(900, Src.nm 900), (901, Src.nm 901)] (locSt foF (fnS m f n S T ii kk) true (foMb (FW.mk 2 of len E p u)) j []) [Hint.b true, Hint.a AV.nilp, Hint.a (AV.ptr 901 0 0), Hint.a AV.nilp, Hint.a (AV.ptr 901 0 0), Hint.a AV.nilp, Hint.a (AV.ptr 901 0 0), Hint.b false] (locSt foF (fnS m f n (pshY S u) (updW T j (FW.mk 2 of len E p (pshX S u))) ii (kk + 1)) true (foMb (FW.mk 2 of len E p (pshX S u))) j []) =
 some (Ex.norm, [(0 : Nat) = 0,
 m = m,
 (none : Option Nat) = none,
 Int.ofNat n = Int.ofNat n,
 (0 : Nat) = 0,
 (0 : Nat) = 0,
 (0 : Nat) = 0,
 (6 : Nat) = 6,
 some 6 = some 6,
 Int.ofNat ii = Int.ofNat ii,
 IntKind.i64.wrap (Int.ofNat kk + 1) = Int.ofNat (kk + 1),
 false = false,
 of + len ≤ of + len,
 LF E = LF E ∧ plainSh [CK.int IntKind.i64] = true ∨ ∀ (i : Nat), i < of + len → rowOb [CK.int IntKind.i64] 0 (LF E i) (LF E i),
 (pshX S u).ln = (pshX S u).ln,
 (pshX S u).h = (pshX S u).h,
 (pshX S u).sl = (pshX S u).sl,
 false = false,
 (6 : Nat) ≤ (6 : Nat),
 ∀ (i : Nat), i < 6 → rowV (CM.mk 6 6703903964971298549787012499102923063739682910296196688861780721860882015036773488400937149083451713845015929093243025426876941405973284973216824503042048 [(900, Src.nm 900), (901, Src.nm 901)]) foF.sh 0 (lrow 6703903964971298549787012499102923063739682910296196688861780721860882015036773488400937149083451713845015929093243025426876941405973284973216824503042048 2 (fnS m f n S T ii kk).M j i) (lrow 6703903964971298549787012499102923063739682910296196688861780721860882015036773488400937149083451713845015929093243025426876941405973284973216824503042048 2 (fnS m f n (pshY S u) (updW T j (FW.mk 2 of len E p (pshX S u))) ii (kk + 1)).M j i),
 true = true,
 (1 : Nat) ≤ (1 : Nat),
 tabF tab = tabF tab ∧ plainSh (List.map kindOfV tab) = true ∨ ∀ (i : Nat), i < 1 → rowOb (List.map kindOfV tab) 0 (tabF tab i) (tabF tab i),
 (pshY S u).st = (pshY S u).st,
 (pshY S u).L.c = (pshY S u).L.c,
 (pshY S u).L.k = (pshY S u).L.k,
 (pshY S u).L.a = (pshY S u).L.a,
 (pshY S u).L.f = (pshY S u).L.f,
 (pshY S u).L.w = (pshY S u).L.w,
 (pshY S u).L.i = (pshY S u).L.i,
 (pshY S u).L.d = (pshY S u).L.d,
 ∀ (k : List Int), (pshY S u).M k = (pshY S u).M k,
 true = true,
 m ≤ m,
 f = f ∧ plainSh [CK.int IntKind.u8] = true ∨ ∀ (i : Nat), i < m → rowOb [CK.int IntKind.u8] 0 (f i) (f i),
 decide ((pshX S u).ln = 0) = false,
 tabF tab = tabF tab,
 U64 S,
 Ln3 u.ln,
 R64 u.h,
 lrow 6703903964971298549787012499102923063739682910296196688861780721860882015036773488400937149083451713845015929093243025426876941405973284973216824503042048 2 (fnS m f n S T ii kk).M j (0 + ii) 2 = AV.ptr 901 0 0,
 (0 + ii).blt 6 = true,
 lrow 6703903964971298549787012499102923063739682910296196688861780721860882015036773488400937149083451713845015929093243025426876941405973284973216824503042048 2 (fnS m f n S T ii kk).M j (0 + ii) 1 = AV.nilp,
 (0 + ii).blt 6 = true,
 lrow 6703903964971298549787012499102923063739682910296196688861780721860882015036773488400937149083451713845015929093243025426876941405973284973216824503042048 2 (fnS m f n S T ii kk).M j (0 + ii) 2 = AV.ptr 901 0 0,
 (0 + ii).blt 6 = true,
 lrow 6703903964971298549787012499102923063739682910296196688861780721860882015036773488400937149083451713845015929093243025426876941405973284973216824503042048 2 (fnS m f n S T ii kk).M j (0 + ii) 1 = AV.nilp,
 (0 + ii).blt 6 = true,
 (ii.blt 6 && decide (0 ≤ Int.ofNat ii)) = true,
 lrow 6703903964971298549787012499102923063739682910296196688861780721860882015036773488400937149083451713845015929093243025426876941405973284973216824503042048 2 (fnS m f n S T ii kk).M j (0 + ii) 2 = AV.ptr 901 0 0,
 (0 + ii).blt 6 = true,
 (ii.blt 6 && decide (0 ≤ Int.ofNat ii)) = true,
 lrow 6703903964971298549787012499102923063739682910296196688861780721860882015036773488400937149083451713845015929093243025426876941405973284973216824503042048 2 (fnS m f n S T ii kk).M j (0 + ii) 1 = AV.nilp,
 (0 + ii).blt 6 = true,
 (ii.blt 6 && decide (0 ≤ Int.ofNat ii)) = true,
 decide (Int.ofNat kk < 5) = true]) := by kernel_rfl
theorem ftD1_ex (m : Nat) (f : Nat → Nat → AV) (n : Nat) (S : MS) (T : Nat → FW) (ii j of len : Nat) (E : Nat → Int) (p : PO) (u : UO) (kk : Nat) (hk5 : kk < 5) (hj : j < 6) (hr0 : 0 ≤ Int.ofNat ii) (hjt : (Int.ofNat ii).toNat = j) (hT : T j = ⟨2, of, len, E, p, u⟩) (hu : U64 S) (huo : UoOk u) (hz : (pshX S u).ln ≠ 0) : FEx Tryd.prog foF (foU m f n) foN (fnS m f n S T ii kk) .norm (fnS m f n (pshY S u) (updW T j ⟨2, of, len, E, p, pshX S u⟩) ii (kk + 1)) := by
  have hIX : (0 + (Int.ofNat ii).toNat) = j := by rw [Nat.zero_add]; exact hjt
  have hii1 : decide (Int.ofNat kk < 5) = true := decide_eq_true (by simp; omega)
  have hii2 : IntKind.i64.wrap (Int.ofNat kk + 1) = Int.ofNat (kk + 1) := by rw [i64w (by simp; omega) (by simp; omega)]; simp
  have hjb : (0 + (Int.ofNat ii).toNat).blt 6 = true := by rw [hIX]; simpa [Nat.blt_eq] using hj
  have hjb2 : ((Int.ofNat ii).toNat.blt 6 && decide (0 ≤ Int.ofNat ii)) = true := by rw [Bool.and_eq_true, hjt]; exact ⟨by simpa [Nat.blt_eq] using hj, decide_eq_true hr0⟩
  have hjt' : ii = j := by simpa using hjt
  have hz1 : decide ((pshX S u).ln = 0) = false := decide_eq_false hz
  have po1 := huo.l
  have po2 := huo.h
  have q0 : (lrow fam0 2 (fnS m f n S T ii kk).M j) (0 + (Int.ofNat ii).toNat) 0 = AV.ss 1 900 of len none := by rw [hIX, lrow_j (mb := foMb ⟨2, of, len, E, p, u⟩) (by show foMb (T j) = _; rw [hT])]; rfl
  have q1 : (lrow fam0 2 (fnS m f n S T ii kk).M j) (0 + (Int.ofNat ii).toNat) 1 = AV.nilp := by rw [hIX, lrow_j (mb := foMb ⟨2, of, len, E, p, u⟩) (by show foMb (T j) = _; rw [hT])]; rfl
  have q2 : (lrow fam0 2 (fnS m f n S T ii kk).M j) (0 + (Int.ofNat ii).toNat) 2 = AV.ptr 901 0 0 := by rw [hIX, lrow_j (mb := foMb ⟨2, of, len, E, p, u⟩) (by show foMb (T j) = _; rw [hT])]; rfl
  have r0 : (lrow fam0 2 (fnS m f n S T ii kk).M j) j 0 = AV.ss 1 900 of len none := by rw [lrow_j (mb := foMb ⟨2, of, len, E, p, u⟩) (by show foMb (T j) = _; rw [hT])]; rfl
  have r1 : (lrow fam0 2 (fnS m f n S T ii kk).M j) j 1 = AV.nilp := by rw [lrow_j (mb := foMb ⟨2, of, len, E, p, u⟩) (by show foMb (T j) = _; rw [hT])]; rfl
  have r2 : (lrow fam0 2 (fnS m f n S T ii kk).M j) j 2 = AV.ptr 901 0 0 := by rw [lrow_j (mb := foMb ⟨2, of, len, E, p, u⟩) (by show foMb (T j) = _; rw [hT])]; rfl
  have c0 : (lrow fam0 2 (fnS m f n S T ii kk).M j) j 0 = AV.ss 1 900 of len none := by exact r0
  have c1 : (lrow fam0 2 (fnS m f n S T ii kk).M j) j 1 = AV.nilp := by exact r1
  have c2 : (lrow fam0 2 (fnS m f n S T ii kk).M j) j 2 = AV.ptr 901 0 0 := by exact r2
  have hrow : ∀ k0, k0 < 6 → rowV (CM.mk 6 fam0 [(900, Src.nm 900), (901, Src.nm 901)]) [.val, .val, .val] 0 ((lrow fam0 2 (fnS m f n S T ii kk).M j) k0) (lrow fam0 2 (fnS m f n (pshY S u) (updW T j ⟨2, of, len, E, p, pshX S u⟩) ii (kk + 1)).M j k0) := fun k0 hk0 =>
    fam_rowsK (F := foF) (c := CM.mk 6 fam0 [(900, Src.nm 900), (901, Src.nm 901)]) (n' := 6) (Nat.le_refl _) (M := fun k => foMb (T k)) (M' := fun k => foMb (updW T j ⟨2, of, len, E, p, pshX S u⟩ k)) (j := j) (src := (lrow fam0 2 (fnS m f n S T ii kk).M j)) (fun i _ hi => ⟨foMb_ok _, by show foMb (if i = j then _ else T i) = _; rw [if_neg hi], fun cc => by exact lrow_ne hi⟩)
      (fun _ => by show rowV _ [.val, .val, .val] 0 _ (fun cc => mrow 2 900 (foMb (if j = j then _ else T j)) cc); rw [if_pos rfl]; exact ⟨valV_eq c0 (valV_ss rfl), valV_eq c1 (valV_nilp), valV_eq c2 (valV_ptr (n := 901) rfl), trivial⟩) k0 hk0
  refine fex_loc EFo_ok foFam foSOk j true true (mb := foMb ⟨2, of, len, E, p, u⟩) (mb' := foMb ⟨2, of, len, E, p, pshX S u⟩) (ftD1_1 m f n S T ii j of len E p u kk) (cj ⟨rfl, rfl, rfl, rfl, rfl, rfl, rfl, rfl, rfl, rfl, (by with_reducible assumption), rfl, Nat.le_refl _, .inl ⟨rfl, rfl⟩, rfl, rfl, rfl, rfl, Nat.le_refl _, hrow, rfl, Nat.le_refl _, .inl ⟨rfl, rfl⟩, rfl, rfl, rfl, rfl, rfl, rfl, rfl, rfl, (fun _ => rfl), rfl, Nat.le_refl _, .inl ⟨rfl, rfl⟩, (by with_reducible assumption), rfl, (by with_reducible assumption), (by with_reducible assumption), (by with_reducible assumption), q2, hjb, q1, hjb, q2, hjb, q1, hjb, hjb2, q2, hjb, hjb2, q1, hjb, hjb2, (by with_reducible assumption), trivial⟩) fnGood fnGood (fun _ => hj) (by show foMb (T j) = _; rw [hT]) (by show foMb (if j = j then _ else _) = _; rw [if_pos rfl]) (.inl ⟨rfl, hj⟩) (fun k hk hne => ⟨hk, by show foMb (if k = j then _ else T k) = foMb (T k); rw [if_neg hne]⟩)
theorem ftD2_1 (m : Nat) (f : Nat → Nat → AV) (n : Nat) (S : MS) (T : Nat → FW) (ii j of len : Nat) (E : Nat → Int) (p : PO) (u : UO) (kk : Nat) : roundB EFo 3000 foN (h0F foF (foU m f n)) [(900, Src.nm 900)] (locSt foF (fnS m f n S T ii kk) true (foMb (FW.mk 2 of len E p u)) j []) [Hint.b true, Hint.a AV.nilp, Hint.a (AV.ptr 901 0 0), Hint.a AV.nilp, Hint.a (AV.ptr 901 0 0), Hint.a AV.nilp, Hint.a (AV.ptr 901 0 0), Hint.b true] (locSt foF (fnS m f n (pshY S u) (updW T j (FW.mk 0 of len E p u)) ii (kk + 1)) true (foMb (FW.mk 0 of len E p u)) j []) =
 some (Ex.norm, [(0 : Nat) = 0,
 m = m,
 (none : Option Nat) = none,
 Int.ofNat n = Int.ofNat n,
 (0 : Nat) = 0,
 (0 : Nat) = 0,
 (0 : Nat) = 0,
 (6 : Nat) = 6,
 some 6 = some 6,
 Int.ofNat ii = Int.ofNat ii,
 IntKind.i64.wrap (Int.ofNat kk + 1) = Int.ofNat (kk + 1),
 false = false,
 of + len ≤ of + len,
 LF E = LF E ∧ plainSh [CK.int IntKind.i64] = true ∨ ∀ (i : Nat), i < of + len → rowOb [CK.int IntKind.i64] 0 (LF E i) (LF E i),
 false = false,
 (6 : Nat) ≤ (6 : Nat),
 ∀ (i : Nat), i < 6 → rowV (CM.mk 6 6703903964971298549787012499102923063739682910296196688861780721860882015036773488400937149083451713845015929093243025426876941405973284973216824503042048 [(900, Src.nm 900)]) foF.sh 0 (upd (lrow 6703903964971298549787012499102923063739682910296196688861780721860882015036773488400937149083451713845015929093243025426876941405973284973216824503042048 2 (fnS m f n S T ii kk).M j) (0 + ii) 2 (ofVal (Value.pointer none)).cells i) (lrow 6703903964971298549787012499102923063739682910296196688861780721860882015036773488400937149083451713845015929093243025426876941405973284973216824503042048 2 (fnS m f n (pshY S u) (updW T j (FW.mk 0 of len E p u)) ii (kk + 1)).M j i),
 true = true,
 (1 : Nat) ≤ (1 : Nat),
 tabF tab = tabF tab ∧ plainSh (List.map kindOfV tab) = true ∨ ∀ (i : Nat), i < 1 → rowOb (List.map kindOfV tab) 0 (tabF tab i) (tabF tab i),
 (pshY S u).st = (pshY S u).st,
 (pshY S u).L.c = (pshY S u).L.c,
 (pshY S u).L.k = (pshY S u).L.k,
 (pshY S u).L.a = (pshY S u).L.a,
 (pshY S u).L.f = (pshY S u).L.f,
 (pshY S u).L.w = (pshY S u).L.w,
 (pshY S u).L.i = (pshY S u).L.i,
 (pshY S u).L.d = (pshY S u).L.d,
 ∀ (k : List Int), (pshY S u).M k = (pshY S u).M k,
 true = true,
 m ≤ m,
 f = f ∧ plainSh [CK.int IntKind.u8] = true ∨ ∀ (i : Nat), i < m → rowOb [CK.int IntKind.u8] 0 (f i) (f i),
 (0 + ii).blt 6 = true,
 decide ((pshX S u).ln = 0) = true,
 tabF tab = tabF tab,
 U64 S,
 Ln3 u.ln,
 R64 u.h,
 lrow 6703903964971298549787012499102923063739682910296196688861780721860882015036773488400937149083451713845015929093243025426876941405973284973216824503042048 2 (fnS m f n S T ii kk).M j (0 + ii) 2 = AV.ptr 901 0 0,
 (0 + ii).blt 6 = true,
 lrow 6703903964971298549787012499102923063739682910296196688861780721860882015036773488400937149083451713845015929093243025426876941405973284973216824503042048 2 (fnS m f n S T ii kk).M j (0 + ii) 1 = AV.nilp,
 (0 + ii).blt 6 = true,
 lrow 6703903964971298549787012499102923063739682910296196688861780721860882015036773488400937149083451713845015929093243025426876941405973284973216824503042048 2 (fnS m f n S T ii kk).M j (0 + ii) 2 = AV.ptr 901 0 0,
 (0 + ii).blt 6 = true,
 lrow 6703903964971298549787012499102923063739682910296196688861780721860882015036773488400937149083451713845015929093243025426876941405973284973216824503042048 2 (fnS m f n S T ii kk).M j (0 + ii) 1 = AV.nilp,
 (0 + ii).blt 6 = true,
 (ii.blt 6 && decide (0 ≤ Int.ofNat ii)) = true,
 lrow 6703903964971298549787012499102923063739682910296196688861780721860882015036773488400937149083451713845015929093243025426876941405973284973216824503042048 2 (fnS m f n S T ii kk).M j (0 + ii) 2 = AV.ptr 901 0 0,
 (0 + ii).blt 6 = true,
 (ii.blt 6 && decide (0 ≤ Int.ofNat ii)) = true,
 lrow 6703903964971298549787012499102923063739682910296196688861780721860882015036773488400937149083451713845015929093243025426876941405973284973216824503042048 2 (fnS m f n S T ii kk).M j (0 + ii) 1 = AV.nilp,
 (0 + ii).blt 6 = true,
 (ii.blt 6 && decide (0 ≤ Int.ofNat ii)) = true,
 decide (Int.ofNat kk < 5) = true]) := by kernel_rfl
theorem ftD2_ex (m : Nat) (f : Nat → Nat → AV) (n : Nat) (S : MS) (T : Nat → FW) (ii j of len : Nat) (E : Nat → Int) (p : PO) (u : UO) (kk : Nat) (hk5 : kk < 5) (hj : j < 6) (hr0 : 0 ≤ Int.ofNat ii) (hjt : (Int.ofNat ii).toNat = j) (hT : T j = ⟨2, of, len, E, p, u⟩) (hu : U64 S) (huo : UoOk u) (hz : (pshX S u).ln = 0) : FEx Tryd.prog foF (foU m f n) foN (fnS m f n S T ii kk) .norm (fnS m f n (pshY S u) (updW T j ⟨0, of, len, E, p, u⟩) ii (kk + 1)) := by
  have hIX : (0 + (Int.ofNat ii).toNat) = j := by rw [Nat.zero_add]; exact hjt
  have hii1 : decide (Int.ofNat kk < 5) = true := decide_eq_true (by simp; omega)
  have hii2 : IntKind.i64.wrap (Int.ofNat kk + 1) = Int.ofNat (kk + 1) := by rw [i64w (by simp; omega) (by simp; omega)]; simp
  have hjb : (0 + (Int.ofNat ii).toNat).blt 6 = true := by rw [hIX]; simpa [Nat.blt_eq] using hj
  have hjb2 : ((Int.ofNat ii).toNat.blt 6 && decide (0 ≤ Int.ofNat ii)) = true := by rw [Bool.and_eq_true, hjt]; exact ⟨by simpa [Nat.blt_eq] using hj, decide_eq_true hr0⟩
  have hjt' : ii = j := by simpa using hjt
  have hz1 : decide ((pshX S u).ln = 0) = true := decide_eq_true hz
  have po1 := huo.l
  have po2 := huo.h
  have q0 : (lrow fam0 2 (fnS m f n S T ii kk).M j) (0 + (Int.ofNat ii).toNat) 0 = AV.ss 1 900 of len none := by rw [hIX, lrow_j (mb := foMb ⟨2, of, len, E, p, u⟩) (by show foMb (T j) = _; rw [hT])]; rfl
  have q1 : (lrow fam0 2 (fnS m f n S T ii kk).M j) (0 + (Int.ofNat ii).toNat) 1 = AV.nilp := by rw [hIX, lrow_j (mb := foMb ⟨2, of, len, E, p, u⟩) (by show foMb (T j) = _; rw [hT])]; rfl
  have q2 : (lrow fam0 2 (fnS m f n S T ii kk).M j) (0 + (Int.ofNat ii).toNat) 2 = AV.ptr 901 0 0 := by rw [hIX, lrow_j (mb := foMb ⟨2, of, len, E, p, u⟩) (by show foMb (T j) = _; rw [hT])]; rfl
  have r0 : (lrow fam0 2 (fnS m f n S T ii kk).M j) j 0 = AV.ss 1 900 of len none := by rw [lrow_j (mb := foMb ⟨2, of, len, E, p, u⟩) (by show foMb (T j) = _; rw [hT])]; rfl
  have r1 : (lrow fam0 2 (fnS m f n S T ii kk).M j) j 1 = AV.nilp := by rw [lrow_j (mb := foMb ⟨2, of, len, E, p, u⟩) (by show foMb (T j) = _; rw [hT])]; rfl
  have r2 : (lrow fam0 2 (fnS m f n S T ii kk).M j) j 2 = AV.ptr 901 0 0 := by rw [lrow_j (mb := foMb ⟨2, of, len, E, p, u⟩) (by show foMb (T j) = _; rw [hT])]; rfl
  have c0 : (upd (lrow fam0 2 (fnS m f n S T ii kk).M j) (0 + (Int.ofNat ii).toNat) 2 [.nilp]) j 0 = AV.ss 1 900 of len none := by rw [hIX]; simp [upd, nth, r0]
  have c1 : (upd (lrow fam0 2 (fnS m f n S T ii kk).M j) (0 + (Int.ofNat ii).toNat) 2 [.nilp]) j 1 = AV.nilp := by rw [hIX]; simp [upd, nth, r1]
  have c2 : (upd (lrow fam0 2 (fnS m f n S T ii kk).M j) (0 + (Int.ofNat ii).toNat) 2 [.nilp]) j 2 = AV.nilp := by rw [hIX]; simp [upd, nth]
  have hrow : ∀ k0, k0 < 6 → rowV (CM.mk 6 fam0 [(900, Src.nm 900)]) [.val, .val, .val] 0 ((upd (lrow fam0 2 (fnS m f n S T ii kk).M j) (0 + (Int.ofNat ii).toNat) 2 [.nilp]) k0) (lrow fam0 2 (fnS m f n (pshY S u) (updW T j ⟨0, of, len, E, p, u⟩) ii (kk + 1)).M j k0) := fun k0 hk0 =>
    fam_rowsK (F := foF) (c := CM.mk 6 fam0 [(900, Src.nm 900)]) (n' := 6) (Nat.le_refl _) (M := fun k => foMb (T k)) (M' := fun k => foMb (updW T j ⟨0, of, len, E, p, u⟩ k)) (j := j) (src := (upd (lrow fam0 2 (fnS m f n S T ii kk).M j) (0 + (Int.ofNat ii).toNat) 2 [.nilp])) (fun i _ hi => ⟨foMb_ok _, by show foMb (if i = j then _ else T i) = _; rw [if_neg hi], fun cc => by rw [hIX]; simp [upd, hi]; exact lrow_ne hi⟩)
      (fun _ => by show rowV _ [.val, .val, .val] 0 _ (fun cc => mrow 2 900 (foMb (if j = j then _ else T j)) cc); rw [if_pos rfl]; exact ⟨valV_eq c0 (valV_ss rfl), valV_eq c1 (valV_nilp), valV_eq c2 (valV_nilp), trivial⟩) k0 hk0
  refine fex_loc EFo_ok foFam foSOk j true true (mb := foMb ⟨2, of, len, E, p, u⟩) (mb' := foMb ⟨0, of, len, E, p, u⟩) (ftD2_1 m f n S T ii j of len E p u kk) (cj ⟨rfl, rfl, rfl, rfl, rfl, rfl, rfl, rfl, rfl, rfl, (by with_reducible assumption), rfl, Nat.le_refl _, .inl ⟨rfl, rfl⟩, rfl, Nat.le_refl _, hrow, rfl, Nat.le_refl _, .inl ⟨rfl, rfl⟩, rfl, rfl, rfl, rfl, rfl, rfl, rfl, rfl, (fun _ => rfl), rfl, Nat.le_refl _, .inl ⟨rfl, rfl⟩, hjb, (by with_reducible assumption), rfl, (by with_reducible assumption), (by with_reducible assumption), (by with_reducible assumption), q2, hjb, q1, hjb, q2, hjb, q1, hjb, hjb2, q2, hjb, hjb2, q1, hjb, hjb2, (by with_reducible assumption), trivial⟩) fnGood fnGood (fun _ => hj) (by show foMb (T j) = _; rw [hT]) (by show foMb (if j = j then _ else _) = _; rw [if_pos rfl]) (.inl ⟨rfl, hj⟩) (fun k hk hne => ⟨hk, by show foMb (if k = j then _ else T k) = foMb (T k); rw [if_neg hne]⟩)
end Go.Proofs.YtljeiencnpnbkaaDoor
