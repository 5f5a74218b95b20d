/-
  FreesOnce: a step in the first loop.
-/
import Derived.Test.YtljeiencnpnbkaaDoorEvRun
set_option linter.unusedSimpArgs false
set_option linter.unusedVariables false
namespace Go.Proofs.YtljeiencnpnbkaaDoor
open Go.Ev
theorem fsA_1 (m : Nat) (f : Nat → Nat → AV) (n : Nat) (S : MS) (T : Nat → FW) (ii j of len : Nat) (E : Nat → Int) (p : PO) (u : UO) (kk : Nat) : roundB EFo 3000 foStep (h0F foF (foU m f n)) [(900, Src.nm 1534401847451316501568682670387937102601550959082686620070292828795062717064691197601532855777767573664478133184793783285570589005883777993747747308506), (901, Src.nm 1534401847451316501568682670387937102601550959082686620070292828795062717064691197601532855777767573664478133184793783285570589005883777993747747308505)] (locSt foF (flS m f n S T ii) true (foMb (FW.mk 0 of len E p u)) j []) [Hint.node [(15, [Hint.a AV.nilp, Hint.a AV.nilp, Hint.b true, Hint.a (AV.ss 1 900 of len none), Hint.b true, Hint.a (AV.ss 1 900 of len none), Hint.b false, Hint.b false, Hint.a (AV.ss 1 900 of len none), Hint.a AV.nilm, Hint.a AV.nilp, Hint.a (AV.ptr 1534401847451316501568682670387937102601550959082686620070292828795062717064691197601532855777767573664478133184793783285570589005883777993747747308505 0 0), Hint.b false])]] (locSt foF (flS m f n (psS1 S (E of)) (updW T j (FW.mk 2 0 (len - 1) (fun k => E (of + 1 + k)) p (psO1 S (E of)))) ii) true (foMb (FW.mk 2 0 (len - 1) (fun k => E (of + 1 + k)) p (psO1 S (E of)))) j []) =
 some (Ex.norm, [(0 : Nat) = 0,
 m = m,
 (none : Option Nat) = none,
 Int.ofNat n = Int.ofNat n,
 (0 : Nat) = 0,
 (0 : Nat) = 0,
 (0 : Nat) = 0,
 (6 : Nat) = 6,
 some 6 = some 6,
 Int.ofNat ii = Int.ofNat ii,
 false = false,
 0 + (len - 1) ≤ len - 1,
 ((LF fun k => E (of + 1 + k)) = fun i => LF E (of + 1 + i)) ∧ plainSh [CK.int IntKind.i64] = true ∨ ∀ (i : Nat), i < 0 + (len - 1) → rowOb [CK.int IntKind.i64] 0 (LF E (of + 1 + i)) (LF (fun k => E (of + 1 + k)) i),
 (pshX S (UO.mk 1 0 ((FW.mk 0 of len E p u).E (of + 0)))).ln = (psO1 S (E of)).ln,
 (pshX S (UO.mk 1 0 ((FW.mk 0 of len E p u).E (of + 0)))).h = (psO1 S (E of)).h,
 (pshX S (UO.mk 1 0 ((FW.mk 0 of len E p u).E (of + 0)))).sl = (psO1 S (E of)).sl,
 false = false,
 (6 : Nat) ≤ (6 : Nat),
 ∀ (i : Nat), i < 6 → rowV (CM.mk 6 6703903964971298549787012499102923063739682910296196688861780721860882015036773488400937149083451713845015929093243025426876941405973284973216824503042048 [(900, Src.nm 1534401847451316501568682670387937102601550959082686620070292828795062717064691197601532855777767573664478133184793783285570589005883777993747747308506), (901, Src.nm 1534401847451316501568682670387937102601550959082686620070292828795062717064691197601532855777767573664478133184793783285570589005883777993747747308505)]) foF.sh 0 (upd (upd (lrow 6703903964971298549787012499102923063739682910296196688861780721860882015036773488400937149083451713845015929093243025426876941405973284973216824503042048 2 (flS m f n S T ii).M j) (0 + ((avInt (f (0 + ii) 0)).tmod 6).toNat) 2 (oneOrAll [AV.ptr 1534401847451316501568682670387937102601550959082686620070292828795062717064691197601532855777767573664478133184793783285570589005883777993747747308505 0 0]).cells) (0 + ((avInt (f (0 + ii) 0)).tmod 6).toNat) 0 (AV.ss 1 1534401847451316501568682670387937102601550959082686620070292828795062717064691197601532855777767573664478133184793783285570589005883777993747747308506 0 (len - 1) none).cells i) (lrow 6703903964971298549787012499102923063739682910296196688861780721860882015036773488400937149083451713845015929093243025426876941405973284973216824503042048 2 (flS m f n (psS1 S (E of)) (updW T j (FW.mk 2 0 (len - 1) (fun k => E (of + 1 + k)) p (psO1 S (E of)))) ii).M j i),
 true = true,
 (1 : Nat) ≤ (1 : Nat),
 tabF tab = tabF tab ∧ plainSh (List.map kindOfV tab) = true ∨ ∀ (i : Nat), i < 1 → rowOb (List.map kindOfV tab) 0 (tabF tab i) (tabF tab i),
 (pshY S (UO.mk 1 0 ((FW.mk 0 of len E p u).E (of + 0)))).st = (psS1 S (E of)).st,
 (pshY S (UO.mk 1 0 ((FW.mk 0 of len E p u).E (of + 0)))).L.c = (psS1 S (E of)).L.c,
 (pshY S (UO.mk 1 0 ((FW.mk 0 of len E p u).E (of + 0)))).L.k = (psS1 S (E of)).L.k,
 (pshY S (UO.mk 1 0 ((FW.mk 0 of len E p u).E (of + 0)))).L.a = (psS1 S (E of)).L.a,
 (pshY S (UO.mk 1 0 ((FW.mk 0 of len E p u).E (of + 0)))).L.f = (psS1 S (E of)).L.f,
 (pshY S (UO.mk 1 0 ((FW.mk 0 of len E p u).E (of + 0)))).L.w = (psS1 S (E of)).L.w,
 (pshY S (UO.mk 1 0 ((FW.mk 0 of len E p u).E (of + 0)))).L.i = (psS1 S (E of)).L.i,
 (pshY S (UO.mk 1 0 ((FW.mk 0 of len E p u).E (of + 0)))).L.d = (psS1 S (E of)).L.d,
 ∀ (k : List Int), (pshY S (UO.mk 1 0 ((FW.mk 0 of len E p u).E (of + 0)))).M k = (psS1 S (E of)).M k,
 true = true,
 m ≤ m,
 f = f ∧ plainSh [CK.int IntKind.u8] = true ∨ ∀ (i : Nat), i < m → rowOb [CK.int IntKind.u8] 0 (f i) (f i),
 decide ((pshX S (UO.mk 1 0 ((FW.mk 0 of len E p u).E (of + 0)))).ln = 0) = false,
 tabF tab = tabF tab,
 U64 S,
 Ln3 1,
 R64 0,
 upd (upd (lrow 6703903964971298549787012499102923063739682910296196688861780721860882015036773488400937149083451713845015929093243025426876941405973284973216824503042048 2 (flS m f n S T ii).M j) (0 + ((avInt (f (0 + ii) 0)).tmod 6).toNat) 2 (oneOrAll [AV.ptr 1534401847451316501568682670387937102601550959082686620070292828795062717064691197601532855777767573664478133184793783285570589005883777993747747308505 0 0]).cells) (0 + ((avInt (f (0 + ii) 0)).tmod 6).toNat) 0 (AV.ss 1 1534401847451316501568682670387937102601550959082686620070292828795062717064691197601532855777767573664478133184793783285570589005883777993747747308506 0 (len - 1) none).cells (0 + ((avInt (f (0 + ii) 0)).tmod 6).toNat) 2 = AV.ptr 1534401847451316501568682670387937102601550959082686620070292828795062717064691197601532855777767573664478133184793783285570589005883777993747747308505 0 0,
 (0 + ((avInt (f (0 + ii) 0)).tmod 6).toNat).blt 6 = true,
 upd (upd (lrow 6703903964971298549787012499102923063739682910296196688861780721860882015036773488400937149083451713845015929093243025426876941405973284973216824503042048 2 (flS m f n S T ii).M j) (0 + ((avInt (f (0 + ii) 0)).tmod 6).toNat) 2 (oneOrAll [AV.ptr 1534401847451316501568682670387937102601550959082686620070292828795062717064691197601532855777767573664478133184793783285570589005883777993747747308505 0 0]).cells) (0 + ((avInt (f (0 + ii) 0)).tmod 6).toNat) 0 (AV.ss 1 1534401847451316501568682670387937102601550959082686620070292828795062717064691197601532855777767573664478133184793783285570589005883777993747747308506 0 (len - 1) none).cells (0 + ((avInt (f (0 + ii) 0)).tmod 6).toNat) 1 = AV.nilp,
 (0 + ((avInt (f (0 + ii) 0)).tmod 6).toNat).blt 6 = true,
 (0 + ((avInt (f (0 + ii) 0)).tmod 6).toNat).blt 6 = true,
 (Nat.ble (1 : Nat) len && ((of + len).ble (of + len) && decide ((0 : Int) ≤ (1 : Int)))) = true,
 upd (lrow 6703903964971298549787012499102923063739682910296196688861780721860882015036773488400937149083451713845015929093243025426876941405973284973216824503042048 2 (flS m f n S T ii).M j) (0 + ((avInt (f (0 + ii) 0)).tmod 6).toNat) 2 (oneOrAll [AV.ptr 1534401847451316501568682670387937102601550959082686620070292828795062717064691197601532855777767573664478133184793783285570589005883777993747747308505 0 0]).cells (0 + ((avInt (f (0 + ii) 0)).tmod 6).toNat) 0 = AV.ss 1 900 of len none,
 (0 + ((avInt (f (0 + ii) 0)).tmod 6).toNat).blt 6 = true,
 (0 + ((avInt (f (0 + ii) 0)).tmod 6).toNat).blt 6 = true,
 decide ((FW.mk 0 of len E p u).E (of + 0) ≥ 256) = false,
 decide ((FW.mk 0 of len E p u).E (of + 0) < 0) = false,
 (of + 0).blt (of + len) = true,
 (Nat.blt (0 : Nat) len && decide ((0 : Int) ≤ (0 : Int))) = true,
 lrow 6703903964971298549787012499102923063739682910296196688861780721860882015036773488400937149083451713845015929093243025426876941405973284973216824503042048 2 (flS m f n S T ii).M j (0 + ((avInt (f (0 + ii) 0)).tmod 6).toNat) 0 = AV.ss 1 900 of len none,
 (0 + ((avInt (f (0 + ii) 0)).tmod 6).toNat).blt 6 = true,
 decide (Int.ofNat len > 0) = true,
 lrow 6703903964971298549787012499102923063739682910296196688861780721860882015036773488400937149083451713845015929093243025426876941405973284973216824503042048 2 (flS m f n S T ii).M j (0 + ((avInt (f (0 + ii) 0)).tmod 6).toNat) 0 = AV.ss 1 900 of len none,
 (0 + ((avInt (f (0 + ii) 0)).tmod 6).toNat).blt 6 = true,
 ((IntKind.u8.wrap ((avInt (f (0 + ii) 0)).tdiv 6)).tmod 2 == 1) = true,
 lrow 6703903964971298549787012499102923063739682910296196688861780721860882015036773488400937149083451713845015929093243025426876941405973284973216824503042048 2 (flS m f n S T ii).M j (0 + ((avInt (f (0 + ii) 0)).tmod 6).toNat) 2 = AV.nilp,
 (0 + ((avInt (f (0 + ii) 0)).tmod 6).toNat).blt 6 = true,
 lrow 6703903964971298549787012499102923063739682910296196688861780721860882015036773488400937149083451713845015929093243025426876941405973284973216824503042048 2 (flS m f n S T ii).M j (0 + ((avInt (f (0 + ii) 0)).tmod 6).toNat) 1 = AV.nilp,
 (0 + ((avInt (f (0 + ii) 0)).tmod 6).toNat).blt 6 = true,
 (0 + ii).blt m = true,
 (ii.blt m && decide (0 ≤ Int.ofNat ii)) = true,
 (((avInt (f (0 + ii) 0)).tmod 6).toNat.blt 6 && decide (0 ≤ (avInt (f (0 + ii) 0)).tmod 6)) = true,
 (0 + ii).blt m = true,
 (ii.blt m && decide (0 ≤ Int.ofNat ii)) = true]) := by kernel_rfl
theorem fsA_ex (m : Nat) (f : Nat → Nat → AV) (n : Nat) (S : MS) (T : Nat → FW) (ii j of len : Nat) (E : Nat → Int) (p : PO) (u : UO) (kk : Nat) (hii : ii < m) (hj : j < 6) (hr0 : 0 ≤ (avInt (f (0 + ii) 0)).tmod 6) (hjt : ((avInt (f (0 + ii) 0)).tmod 6).toNat = j) (hT : T j = ⟨0, of, len, E, p, u⟩) (hu : U64 S) (hpv : ((IntKind.u8.wrap ((avInt (f (0 + ii) 0)).tdiv 6)).tmod 2 == 1) = true) (hl : 0 < len) (he0 : 0 ≤ E of) (he1 : E of < 256) (hz : (psO1 S (E of)).ln ≠ 0) : FEx Tryd.prog foF (foU m f n) foStep (flS m f n S T ii) .norm (flS m f n (psS1 S (E of)) (updW T j ⟨2, 0, len - 1, fun k => E (of + 1 + k), p, psO1 S (E of)⟩) ii) := by
  have hIX : (0 + ((avInt (f (0 + ii) 0)).tmod 6).toNat) = j := by rw [Nat.zero_add]; exact hjt
  have hii1 : (0 + ii).blt m = true := by rw [Nat.zero_add]; simpa [Nat.blt_eq] using hii
  have hii2 : (ii.blt m && decide (0 ≤ Int.ofNat ii)) = true := by rw [Bool.and_eq_true]; exact ⟨by simpa [Nat.blt_eq] using hii, decide_eq_true (by simp)⟩
  have hjb : (0 + ((avInt (f (0 + ii) 0)).tmod 6).toNat).blt 6 = true := by rw [hIX]; simpa [Nat.blt_eq] using hj
  have hjb2 : (((avInt (f (0 + ii) 0)).tmod 6).toNat.blt 6 && decide (0 ≤ (avInt (f (0 + ii) 0)).tmod 6)) = true := by rw [Bool.and_eq_true, hjt]; exact ⟨by simpa [Nat.blt_eq] using hj, decide_eq_true hr0⟩
  have hjt' : ((avInt (f ii 0)).tmod 6).toNat = j := by rw [← hjt, Nat.zero_add]
  have hlt : decide (Int.ofNat len > 0) = true := decide_eq_true (by simp; omega)
  have hlb1 : (0 + 0).blt len = true := by simp [Nat.blt_eq]; omega
  have hlb2 : (Nat.ble 1 len) = true := Nat.ble_eq_true_of_le hl
  have he2 : decide (E (of + 0) < 0) = false := decide_eq_false (by show ¬ E of < 0; omega)
  have he3 : decide (E (of + 0) ≥ 256) = false := decide_eq_false (by show ¬ E of ≥ 256; omega)
  have hz1 : decide ((psO1 S (E of)).ln = 0) = false := decide_eq_false hz
  have hlb3 : (Nat.ble (1 : Int).toNat len && (Nat.ble (of + len) (of + len) && decide ((0 : Int) ≤ 1))) = true := by simp; omega
  have po1 := (uo0_ok (E of)).l
  have po2 := (uo0_ok (E of)).h
  have q0 : (lrow fam0 2 (flS m f n S T ii).M j) (0 + ((avInt (f (0 + ii) 0)).tmod 6).toNat) 0 = AV.ss 1 900 of len none := by rw [hIX, lrow_j (mb := foMb ⟨0, of, len, E, p, u⟩) (by show foMb (T j) = _; rw [hT])]; rfl
  have q1 : (lrow fam0 2 (flS m f n S T ii).M j) (0 + ((avInt (f (0 + ii) 0)).tmod 6).toNat) 1 = AV.nilp := by rw [hIX, lrow_j (mb := foMb ⟨0, of, len, E, p, u⟩) (by show foMb (T j) = _; rw [hT])]; rfl
  have q2 : (lrow fam0 2 (flS m f n S T ii).M j) (0 + ((avInt (f (0 + ii) 0)).tmod 6).toNat) 2 = AV.nilp := by rw [hIX, lrow_j (mb := foMb ⟨0, of, len, E, p, u⟩) (by show foMb (T j) = _; rw [hT])]; rfl
  have u1 : (upd (upd (lrow fam0 2 (flS m f n S T ii).M j) (0 + ((avInt (f (0 + ii) 0)).tmod 6).toNat) 2 [AV.ptr 1534401847451316501568682670387937102601550959082686620070292828795062717064691197601532855777767573664478133184793783285570589005883777993747747308505 0 0]) (0 + ((avInt (f (0 + ii) 0)).tmod 6).toNat) 0 [AV.ss 1 1534401847451316501568682670387937102601550959082686620070292828795062717064691197601532855777767573664478133184793783285570589005883777993747747308506 0 (len - 1) none]) (0 + ((avInt (f (0 + ii) 0)).tmod 6).toNat) 2 = AV.ptr 1534401847451316501568682670387937102601550959082686620070292828795062717064691197601532855777767573664478133184793783285570589005883777993747747308505 0 0 := by simp [upd, nth]
  have u2 : (upd (upd (lrow fam0 2 (flS m f n S T ii).M j) (0 + ((avInt (f (0 + ii) 0)).tmod 6).toNat) 2 [AV.ptr 1534401847451316501568682670387937102601550959082686620070292828795062717064691197601532855777767573664478133184793783285570589005883777993747747308505 0 0]) (0 + ((avInt (f (0 + ii) 0)).tmod 6).toNat) 0 [AV.ss 1 1534401847451316501568682670387937102601550959082686620070292828795062717064691197601532855777767573664478133184793783285570589005883777993747747308506 0 (len - 1) none]) (0 + ((avInt (f (0 + ii) 0)).tmod 6).toNat) 1 = AV.nilp := by have e := q1; simp [upd, nth] at e ⊢; exact e
  have u3 : (upd (lrow fam0 2 (flS m f n S T ii).M j) (0 + ((avInt (f (0 + ii) 0)).tmod 6).toNat) 2 [AV.ptr 1534401847451316501568682670387937102601550959082686620070292828795062717064691197601532855777767573664478133184793783285570589005883777993747747308505 0 0]) (0 + ((avInt (f (0 + ii) 0)).tmod 6).toNat) 0 = AV.ss 1 900 of len none := by have e := q0; simp [upd, nth] at e ⊢; exact e
  have r0 : (lrow fam0 2 (flS m f n S T ii).M j) j 0 = AV.ss 1 900 of len none := by rw [lrow_j (mb := foMb ⟨0, of, len, E, p, u⟩) (by show foMb (T j) = _; rw [hT])]; rfl
  have r1 : (lrow fam0 2 (flS m f n S T ii).M j) j 1 = AV.nilp := by rw [lrow_j (mb := foMb ⟨0, of, len, E, p, u⟩) (by show foMb (T j) = _; rw [hT])]; rfl
  have r2 : (lrow fam0 2 (flS m f n S T ii).M j) j 2 = AV.nilp := by rw [lrow_j (mb := foMb ⟨0, of, len, E, p, u⟩) (by show foMb (T j) = _; rw [hT])]; rfl
  have c0 : (upd (upd (lrow fam0 2 (flS m f n S T ii).M j) (0 + ((avInt (f (0 + ii) 0)).tmod 6).toNat) 2 [.ptr 1534401847451316501568682670387937102601550959082686620070292828795062717064691197601532855777767573664478133184793783285570589005883777993747747308505 0 0]) (0 + ((avInt (f (0 + ii) 0)).tmod 6).toNat) 0 [.ss 1 1534401847451316501568682670387937102601550959082686620070292828795062717064691197601532855777767573664478133184793783285570589005883777993747747308506 0 (len - 1) none]) j 0 = AV.ss 1 1534401847451316501568682670387937102601550959082686620070292828795062717064691197601532855777767573664478133184793783285570589005883777993747747308506 0 (len - 1) none := by simp [upd, nth, hjt']
  have c1 : (upd (upd (lrow fam0 2 (flS m f n S T ii).M j) (0 + ((avInt (f (0 + ii) 0)).tmod 6).toNat) 2 [.ptr 1534401847451316501568682670387937102601550959082686620070292828795062717064691197601532855777767573664478133184793783285570589005883777993747747308505 0 0]) (0 + ((avInt (f (0 + ii) 0)).tmod 6).toNat) 0 [.ss 1 1534401847451316501568682670387937102601550959082686620070292828795062717064691197601532855777767573664478133184793783285570589005883777993747747308506 0 (len - 1) none]) j 1 = AV.nilp := by simp [upd, nth, hjt', r1]
  have c2 : (upd (upd (lrow fam0 2 (flS m f n S T ii).M j) (0 + ((avInt (f (0 + ii) 0)).tmod 6).toNat) 2 [.ptr 1534401847451316501568682670387937102601550959082686620070292828795062717064691197601532855777767573664478133184793783285570589005883777993747747308505 0 0]) (0 + ((avInt (f (0 + ii) 0)).tmod 6).toNat) 0 [.ss 1 1534401847451316501568682670387937102601550959082686620070292828795062717064691197601532855777767573664478133184793783285570589005883777993747747308506 0 (len - 1) none]) j 2 = AV.ptr 1534401847451316501568682670387937102601550959082686620070292828795062717064691197601532855777767573664478133184793783285570589005883777993747747308505 0 0 := by simp [upd, nth, hjt']
  have hrow : ∀ k0, k0 < 6 → rowV (CM.mk 6 fam0 [(900, Src.nm 1534401847451316501568682670387937102601550959082686620070292828795062717064691197601532855777767573664478133184793783285570589005883777993747747308506), (901, Src.nm 1534401847451316501568682670387937102601550959082686620070292828795062717064691197601532855777767573664478133184793783285570589005883777993747747308505)]) [.val, .val, .val] 0 ((upd (upd (lrow fam0 2 (flS m f n S T ii).M j) (0 + ((avInt (f (0 + ii) 0)).tmod 6).toNat) 2 [.ptr 1534401847451316501568682670387937102601550959082686620070292828795062717064691197601532855777767573664478133184793783285570589005883777993747747308505 0 0]) (0 + ((avInt (f (0 + ii) 0)).tmod 6).toNat) 0 [.ss 1 1534401847451316501568682670387937102601550959082686620070292828795062717064691197601532855777767573664478133184793783285570589005883777993747747308506 0 (len - 1) none]) k0) (lrow fam0 2 (flS m f n (psS1 S (E of)) (updW T j ⟨2, 0, len - 1, fun k => E (of + 1 + k), p, psO1 S (E of)⟩) ii).M j k0) := fun k0 hk0 =>
    fam_rowsK (F := foF) (c := CM.mk 6 fam0 [(900, Src.nm 1534401847451316501568682670387937102601550959082686620070292828795062717064691197601532855777767573664478133184793783285570589005883777993747747308506), (901, Src.nm 1534401847451316501568682670387937102601550959082686620070292828795062717064691197601532855777767573664478133184793783285570589005883777993747747308505)]) (n' := 6) (Nat.le_refl _) (M := fun k => foMb (T k)) (M' := fun k => foMb (updW T j ⟨2, 0, len - 1, fun k => E (of + 1 + k), p, psO1 S (E of)⟩ k)) (j := j) (src := (upd (upd (lrow fam0 2 (flS m f n S T ii).M j) (0 + ((avInt (f (0 + ii) 0)).tmod 6).toNat) 2 [.ptr 1534401847451316501568682670387937102601550959082686620070292828795062717064691197601532855777767573664478133184793783285570589005883777993747747308505 0 0]) (0 + ((avInt (f (0 + ii) 0)).tmod 6).toNat) 0 [.ss 1 1534401847451316501568682670387937102601550959082686620070292828795062717064691197601532855777767573664478133184793783285570589005883777993747747308506 0 (len - 1) none])) (fun i _ hi => ⟨foMb_ok _, by show foMb (if i = j then _ else T i) = _; rw [if_neg hi], fun cc => by simp [upd, hjt', hi]; exact lrow_ne hi⟩)
      (fun _ => by show rowV _ [.val, .val, .val] 0 _ (fun cc => mrow 2 900 (foMb (if j = j then _ else T j)) cc); rw [if_pos rfl]; exact ⟨valV_eq c0 (valV_ss rfl), valV_eq c1 (valV_nilp), valV_eq c2 (valV_ptr (n := 901) rfl), trivial⟩) k0 hk0
  refine fex_loc EFo_ok foFam foSOk j true true (mb := foMb ⟨0, of, len, E, p, u⟩) (mb' := foMb ⟨2, 0, len - 1, fun k => E (of + 1 + k), p, psO1 S (E of)⟩) (fsA_1 m f n S T ii j of len E p u kk) (cj ⟨rfl, rfl, rfl, rfl, rfl, rfl, rfl, rfl, rfl, rfl, rfl, (by (simp [upd, nth, q0, q1, q2]; done)), .inl ⟨rfl, rfl⟩, rfl, rfl, rfl, rfl, Nat.le_refl _, hrow, rfl, Nat.le_refl _, .inl ⟨rfl, rfl⟩, rfl, rfl, rfl, rfl, rfl, rfl, rfl, rfl, (fun _ => rfl), rfl, Nat.le_refl _, .inl ⟨rfl, rfl⟩, hz1, rfl, (by with_reducible assumption), (by with_reducible assumption), (by with_reducible assumption), u1, (by with_reducible assumption), u2, (by with_reducible assumption), (by with_reducible assumption), hlb3, u3, (by with_reducible assumption), (by with_reducible assumption), (by with_reducible assumption), (by with_reducible assumption), (by (simp; omega)), (by (simp; omega)), q0, (by with_reducible assumption), (by with_reducible assumption), q0, (by with_reducible assumption), (by with_reducible assumption), q2, (by with_reducible assumption), q1, (by with_reducible assumption), (by with_reducible assumption), (by with_reducible assumption), (by with_reducible assumption), (by with_reducible assumption), (by with_reducible assumption), trivial⟩) flGood flGood (fun _ => hj) (by show foMb (T j) = _; rw [hT]) (by show foMb (if j = j then _ else _) = _; rw [if_pos rfl]) (.inl ⟨rfl, hj⟩) (fun k hk hne => ⟨hk, by show foMb (if k = j then _ else T k) = foMb (T k); rw [if_neg hne]⟩)
theorem fsB1x_1 (m : Nat) (f : Nat → Nat → AV) (n : Nat) (S : MS) (T : Nat → FW) (ii j of len : Nat) (E : Nat → Int) (p : PO) (u : UO) (kk : Nat) : roundB EFo 3000 foStep (h0F foF (foU m f n)) [(900, Src.nm 900), (901, Src.nm 1534401847451316501568682670387937102601550959082686620070292828795062717064691197601532855777767573664478133184793783285570589005883777993747747308505)] (locSt foF (flS m f n S T ii) true (foMb (FW.mk 0 of len E p u)) j []) [Hint.node [(15, [Hint.a AV.nilp, Hint.a AV.nilp, Hint.b false, Hint.a (AV.ptr 1534401847451316501568682670387937102601550959082686620070292828795062717064691197601532855777767573664478133184793783285570589005883777993747747308505 0 0), Hint.a (AV.ptr 1534401847451316501568682670387937102601550959082686620070292828795062717064691197601532855777767573664478133184793783285570589005883777993747747308505 0 0), Hint.b false])]] (locSt foF (flS m f n (ppS1 S) (updW T j (FW.mk 1 of len E (ppO1 S) u)) ii) true (foMb (FW.mk 1 of len E (ppO1 S) u)) j []) =
 some (Ex.norm, [(0 : Nat) = 0,
 m = m,
 (none : Option Nat) = none,
 Int.ofNat n = Int.ofNat n,
 (0 : Nat) = 0,
 (0 : Nat) = 0,
 (0 : Nat) = 0,
 (6 : Nat) = 6,
 some 6 = some 6,
 Int.ofNat ii = Int.ofNat ii,
 false = false,
 of + len ≤ of + len,
 LF E = LF E ∧ plainSh [CK.int IntKind.i64] = true ∨ ∀ (i : Nat), i < of + len → rowOb [CK.int IntKind.i64] 0 (LF E i) (LF E i),
 (popX S (PO.mk 1 0 0 0 false)).ln = (ppO1 S).ln,
 (popX S (PO.mk 1 0 0 0 false)).h = (ppO1 S).h,
 (popX S (PO.mk 1 0 0 0 false)).nx = (ppO1 S).nx,
 (popX S (PO.mk 1 0 0 0 false)).sl = (ppO1 S).sl,
 (popX S (PO.mk 1 0 0 0 false)).ok = (ppO1 S).ok,
 false = false,
 (6 : Nat) ≤ (6 : Nat),
 ∀ (i : Nat), i < 6 → rowV (CM.mk 6 6703903964971298549787012499102923063739682910296196688861780721860882015036773488400937149083451713845015929093243025426876941405973284973216824503042048 [(900, Src.nm 900), (901, Src.nm 1534401847451316501568682670387937102601550959082686620070292828795062717064691197601532855777767573664478133184793783285570589005883777993747747308505)]) foF.sh 0 (upd (lrow 6703903964971298549787012499102923063739682910296196688861780721860882015036773488400937149083451713845015929093243025426876941405973284973216824503042048 2 (flS m f n S T ii).M j) (0 + ((avInt (f (0 + ii) 0)).tmod 6).toNat) 1 (oneOrAll [AV.ptr 1534401847451316501568682670387937102601550959082686620070292828795062717064691197601532855777767573664478133184793783285570589005883777993747747308505 0 0]).cells i) (lrow 6703903964971298549787012499102923063739682910296196688861780721860882015036773488400937149083451713845015929093243025426876941405973284973216824503042048 2 (flS m f n (ppS1 S) (updW T j (FW.mk 1 of len E (ppO1 S) u)) ii).M j i),
 true = true,
 (1 : Nat) ≤ (1 : Nat),
 tabF tab = tabF tab ∧ plainSh (List.map kindOfV tab) = true ∨ ∀ (i : Nat), i < 1 → rowOb (List.map kindOfV tab) 0 (tabF tab i) (tabF tab i),
 (popY S (PO.mk 1 0 0 0 false)).st = (ppS1 S).st,
 (popY S (PO.mk 1 0 0 0 false)).L.c = (ppS1 S).L.c,
 (popY S (PO.mk 1 0 0 0 false)).L.k = (ppS1 S).L.k,
 (popY S (PO.mk 1 0 0 0 false)).L.a = (ppS1 S).L.a,
 (popY S (PO.mk 1 0 0 0 false)).L.f = (ppS1 S).L.f,
 (popY S (PO.mk 1 0 0 0 false)).L.w = (ppS1 S).L.w,
 (popY S (PO.mk 1 0 0 0 false)).L.i = (ppS1 S).L.i,
 (popY S (PO.mk 1 0 0 0 false)).L.d = (ppS1 S).L.d,
 ∀ (k : List Int), (popY S (PO.mk 1 0 0 0 false)).M k = (ppS1 S).M k,
 true = true,
 m ≤ m,
 f = f ∧ plainSh [CK.int IntKind.u8] = true ∨ ∀ (i : Nat), i < m → rowOb [CK.int IntKind.u8] 0 (f i) (f i),
 decide ((popX S (PO.mk 1 0 0 0 false)).ln = 0) = false,
 tabF tab = tabF tab,
 U64 S,
 Ln3 1,
 R64 0,
 upd (lrow 6703903964971298549787012499102923063739682910296196688861780721860882015036773488400937149083451713845015929093243025426876941405973284973216824503042048 2 (flS m f n S T ii).M j) (0 + ((avInt (f (0 + ii) 0)).tmod 6).toNat) 1 (oneOrAll [AV.ptr 1534401847451316501568682670387937102601550959082686620070292828795062717064691197601532855777767573664478133184793783285570589005883777993747747308505 0 0]).cells (0 + ((avInt (f (0 + ii) 0)).tmod 6).toNat) 1 = AV.ptr 1534401847451316501568682670387937102601550959082686620070292828795062717064691197601532855777767573664478133184793783285570589005883777993747747308505 0 0,
 (0 + ((avInt (f (0 + ii) 0)).tmod 6).toNat).blt 6 = true,
 upd (lrow 6703903964971298549787012499102923063739682910296196688861780721860882015036773488400937149083451713845015929093243025426876941405973284973216824503042048 2 (flS m f n S T ii).M j) (0 + ((avInt (f (0 + ii) 0)).tmod 6).toNat) 1 (oneOrAll [AV.ptr 1534401847451316501568682670387937102601550959082686620070292828795062717064691197601532855777767573664478133184793783285570589005883777993747747308505 0 0]).cells (0 + ((avInt (f (0 + ii) 0)).tmod 6).toNat) 1 = AV.ptr 1534401847451316501568682670387937102601550959082686620070292828795062717064691197601532855777767573664478133184793783285570589005883777993747747308505 0 0,
 (0 + ((avInt (f (0 + ii) 0)).tmod 6).toNat).blt 6 = true,
 (0 + ((avInt (f (0 + ii) 0)).tmod 6).toNat).blt 6 = true,
 ((IntKind.u8.wrap ((avInt (f (0 + ii) 0)).tdiv 6)).tmod 2 == 1) = false,
 lrow 6703903964971298549787012499102923063739682910296196688861780721860882015036773488400937149083451713845015929093243025426876941405973284973216824503042048 2 (flS m f n S T ii).M j (0 + ((avInt (f (0 + ii) 0)).tmod 6).toNat) 2 = AV.nilp,
 (0 + ((avInt (f (0 + ii) 0)).tmod 6).toNat).blt 6 = true,
 lrow 6703903964971298549787012499102923063739682910296196688861780721860882015036773488400937149083451713845015929093243025426876941405973284973216824503042048 2 (flS m f n S T ii).M j (0 + ((avInt (f (0 + ii) 0)).tmod 6).toNat) 1 = AV.nilp,
 (0 + ((avInt (f (0 + ii) 0)).tmod 6).toNat).blt 6 = true,
 (0 + ii).blt m = true,
 (ii.blt m && decide (0 ≤ Int.ofNat ii)) = true,
 (((avInt (f (0 + ii) 0)).tmod 6).toNat.blt 6 && decide (0 ≤ (avInt (f (0 + ii) 0)).tmod 6)) = true,
 (0 + ii).blt m = true,
 (ii.blt m && decide (0 ≤ Int.ofNat ii)) = true]) := by kernel_rfl
theorem fsB1x_ex (m : Nat) (f : Nat → Nat → AV) (n : Nat) (S : MS) (T : Nat → FW) (ii j of len : Nat) (E : Nat → Int) (p : PO) (u : UO) (kk : Nat) (hii : ii < m) (hj : j < 6) (hr0 : 0 ≤ (avInt (f (0 + ii) 0)).tmod 6) (hjt : ((avInt (f (0 + ii) 0)).tmod 6).toNat = j) (hT : T j = ⟨0, of, len, E, p, u⟩) (hu : U64 S) (hpv : ((IntKind.u8.wrap ((avInt (f (0 + ii) 0)).tdiv 6)).tmod 2 == 1) = false) (hz : (ppO1 S).ln ≠ 0) : FEx Tryd.prog foF (foU m f n) foStep (flS m f n S T ii) .norm (flS m f n (ppS1 S) (updW T j ⟨1, of, len, E, ppO1 S, u⟩) ii) := by
  have hIX : (0 + ((avInt (f (0 + ii) 0)).tmod 6).toNat) = j := by rw [Nat.zero_add]; exact hjt
  have hii1 : (0 + ii).blt m = true := by rw [Nat.zero_add]; simpa [Nat.blt_eq] using hii
  have hii2 : (ii.blt m && decide (0 ≤ Int.ofNat ii)) = true := by rw [Bool.and_eq_true]; exact ⟨by simpa [Nat.blt_eq] using hii, decide_eq_true (by simp)⟩
  have hjb : (0 + ((avInt (f (0 + ii) 0)).tmod 6).toNat).blt 6 = true := by rw [hIX]; simpa [Nat.blt_eq] using hj
  have hjb2 : (((avInt (f (0 + ii) 0)).tmod 6).toNat.blt 6 && decide (0 ≤ (avInt (f (0 + ii) 0)).tmod 6)) = true := by rw [Bool.and_eq_true, hjt]; exact ⟨by simpa [Nat.blt_eq] using hj, decide_eq_true hr0⟩
  have hjt' : ((avInt (f ii 0)).tmod 6).toNat = j := by rw [← hjt, Nat.zero_add]
  have hz1 : decide ((ppO1 S).ln = 0) = false := decide_eq_false hz
  have po1 := po0_ok.l
  have po2 := po0_ok.h
  have q0 : (lrow fam0 2 (flS m f n S T ii).M j) (0 + ((avInt (f (0 + ii) 0)).tmod 6).toNat) 0 = AV.ss 1 900 of len none := by rw [hIX, lrow_j (mb := foMb ⟨0, of, len, E, p, u⟩) (by show foMb (T j) = _; rw [hT])]; rfl
  have q1 : (lrow fam0 2 (flS m f n S T ii).M j) (0 + ((avInt (f (0 + ii) 0)).tmod 6).toNat) 1 = AV.nilp := by rw [hIX, lrow_j (mb := foMb ⟨0, of, len, E, p, u⟩) (by show foMb (T j) = _; rw [hT])]; rfl
  have q2 : (lrow fam0 2 (flS m f n S T ii).M j) (0 + ((avInt (f (0 + ii) 0)).tmod 6).toNat) 2 = AV.nilp := by rw [hIX, lrow_j (mb := foMb ⟨0, of, len, E, p, u⟩) (by show foMb (T j) = _; rw [hT])]; rfl
  have u1 : (upd (lrow fam0 2 (flS m f n S T ii).M j) (0 + ((avInt (f (0 + ii) 0)).tmod 6).toNat) 1 [AV.ptr 1534401847451316501568682670387937102601550959082686620070292828795062717064691197601532855777767573664478133184793783285570589005883777993747747308505 0 0]) (0 + ((avInt (f (0 + ii) 0)).tmod 6).toNat) 1 = AV.ptr 1534401847451316501568682670387937102601550959082686620070292828795062717064691197601532855777767573664478133184793783285570589005883777993747747308505 0 0 := by simp [upd, nth]
  have r0 : (lrow fam0 2 (flS m f n S T ii).M j) j 0 = AV.ss 1 900 of len none := by rw [lrow_j (mb := foMb ⟨0, of, len, E, p, u⟩) (by show foMb (T j) = _; rw [hT])]; rfl
  have r1 : (lrow fam0 2 (flS m f n S T ii).M j) j 1 = AV.nilp := by rw [lrow_j (mb := foMb ⟨0, of, len, E, p, u⟩) (by show foMb (T j) = _; rw [hT])]; rfl
  have r2 : (lrow fam0 2 (flS m f n S T ii).M j) j 2 = AV.nilp := by rw [lrow_j (mb := foMb ⟨0, of, len, E, p, u⟩) (by show foMb (T j) = _; rw [hT])]; rfl
  have c0 : (upd (lrow fam0 2 (flS m f n S T ii).M j) (0 + ((avInt (f (0 + ii) 0)).tmod 6).toNat) 1 [.ptr 1534401847451316501568682670387937102601550959082686620070292828795062717064691197601532855777767573664478133184793783285570589005883777993747747308505 0 0]) j 0 = AV.ss 1 900 of len none := by simp [upd, nth, hjt', r0]
  have c1 : (upd (lrow fam0 2 (flS m f n S T ii).M j) (0 + ((avInt (f (0 + ii) 0)).tmod 6).toNat) 1 [.ptr 1534401847451316501568682670387937102601550959082686620070292828795062717064691197601532855777767573664478133184793783285570589005883777993747747308505 0 0]) j 1 = AV.ptr 1534401847451316501568682670387937102601550959082686620070292828795062717064691197601532855777767573664478133184793783285570589005883777993747747308505 0 0 := by simp [upd, nth, hjt']
  have c2 : (upd (lrow fam0 2 (flS m f n S T ii).M j) (0 + ((avInt (f (0 + ii) 0)).tmod 6).toNat) 1 [.ptr 1534401847451316501568682670387937102601550959082686620070292828795062717064691197601532855777767573664478133184793783285570589005883777993747747308505 0 0]) j 2 = AV.nilp := by simp [upd, nth, hjt', r2]
  have hrow : ∀ k0, k0 < 6 → rowV (CM.mk 6 fam0 [(900, Src.nm 900), (901, Src.nm 1534401847451316501568682670387937102601550959082686620070292828795062717064691197601532855777767573664478133184793783285570589005883777993747747308505)]) [.val, .val, .val] 0 ((upd (lrow fam0 2 (flS m f n S T ii).M j) (0 + ((avInt (f (0 + ii) 0)).tmod 6).toNat) 1 [.ptr 1534401847451316501568682670387937102601550959082686620070292828795062717064691197601532855777767573664478133184793783285570589005883777993747747308505 0 0]) k0) (lrow fam0 2 (flS m f n (ppS1 S) (updW T j ⟨1, of, len, E, ppO1 S, u⟩) ii).M j k0) := fun k0 hk0 =>
    fam_rowsK (F := foF) (c := CM.mk 6 fam0 [(900, Src.nm 900), (901, Src.nm 1534401847451316501568682670387937102601550959082686620070292828795062717064691197601532855777767573664478133184793783285570589005883777993747747308505)]) (n' := 6) (Nat.le_refl _) (M := fun k => foMb (T k)) (M' := fun k => foMb (updW T j ⟨1, of, len, E, ppO1 S, u⟩ k)) (j := j) (src := (upd (lrow fam0 2 (flS m f n S T ii).M j) (0 + ((avInt (f (0 + ii) 0)).tmod 6).toNat) 1 [.ptr 1534401847451316501568682670387937102601550959082686620070292828795062717064691197601532855777767573664478133184793783285570589005883777993747747308505 0 0])) (fun i _ hi => ⟨foMb_ok _, by show foMb (if i = j then _ else T i) = _; rw [if_neg hi], fun cc => by simp [upd, hjt', hi]; exact lrow_ne hi⟩)
      (fun _ => by show rowV _ [.val, .val, .val] 0 _ (fun cc => mrow 2 900 (foMb (if j = j then _ else T j)) cc); rw [if_pos rfl]; exact ⟨valV_eq c0 (valV_ss rfl), valV_eq c1 (valV_ptr (n := 901) rfl), valV_eq c2 (valV_nilp), trivial⟩) k0 hk0
  refine fex_loc EFo_ok foFam foSOk j true true (mb := foMb ⟨0, of, len, E, p, u⟩) (mb' := foMb ⟨1, of, len, E, ppO1 S, u⟩) (fsB1x_1 m f n S T ii j of len E p u kk) (cj ⟨rfl, rfl, rfl, rfl, rfl, rfl, rfl, rfl, rfl, rfl, rfl, Nat.le_refl _, .inl ⟨rfl, rfl⟩, rfl, rfl, rfl, rfl, rfl, rfl, Nat.le_refl _, hrow, rfl, Nat.le_refl _, .inl ⟨rfl, rfl⟩, rfl, rfl, rfl, rfl, rfl, rfl, rfl, rfl, (fun _ => rfl), rfl, Nat.le_refl _, .inl ⟨rfl, rfl⟩, hz1, rfl, (by with_reducible assumption), po1, po2, u1, (by with_reducible assumption), u1, (by with_reducible assumption), (by with_reducible assumption), (by with_reducible assumption), q2, (by with_reducible assumption), q1, (by with_reducible assumption), (by with_reducible assumption), (by with_reducible assumption), (by with_reducible assumption), (by with_reducible assumption), (by with_reducible assumption), trivial⟩) flGood flGood (fun _ => hj) (by show foMb (T j) = _; rw [hT]) (by show foMb (if j = j then _ else _) = _; rw [if_pos rfl]) (.inl ⟨rfl, hj⟩) (fun k hk hne => ⟨hk, by show foMb (if k = j then _ else T k) = foMb (T k); rw [if_neg hne]⟩)
theorem fsB2x_1 (m : Nat) (f : Nat → Nat → AV) (n : Nat) (S : MS) (T : Nat → FW) (ii j of len : Nat) (E : Nat → Int) (p : PO) (u : UO) (kk : Nat) : roundB EFo 3000 foStep (h0F foF (foU m f n)) [(900, Src.nm 900)] (locSt foF (flS m f n S T ii) true (foMb (FW.mk 0 of len E p u)) j []) [Hint.node [(15, [Hint.a AV.nilp, Hint.a AV.nilp, Hint.b false, Hint.a (AV.ptr 1534401847451316501568682670387937102601550959082686620070292828795062717064691197601532855777767573664478133184793783285570589005883777993747747308505 0 0), Hint.a (AV.ptr 1534401847451316501568682670387937102601550959082686620070292828795062717064691197601532855777767573664478133184793783285570589005883777993747747308505 0 0), Hint.b true, Hint.a (AV.ptr 1534401847451316501568682670387937102601550959082686620070292828795062717064691197601532855777767573664478133184793783285570589005883777993747747308505 0 0), Hint.b false])]] (locSt foF (flS m f n (ppS1 S) (updW T j (FW.mk 0 of len E p u)) ii) true (foMb (FW.mk 0 of len E p u)) j []) =
 some (Ex.norm, [(0 : Nat) = 0,
 m = m,
 (none : Option Nat) = none,
 Int.ofNat n = Int.ofNat n,
 (0 : Nat) = 0,
 (0 : Nat) = 0,
 (0 : Nat) = 0,
 (6 : Nat) = 6,
 some 6 = some 6,
 Int.ofNat ii = Int.ofNat ii,
 false = false,
 of + len ≤ of + len,
 LF E = LF E ∧ plainSh [CK.int IntKind.i64] = true ∨ ∀ (i : Nat), i < of + len → rowOb [CK.int IntKind.i64] 0 (LF E i) (LF E i),
 false = false,
 (6 : Nat) ≤ (6 : Nat),
 ∀ (i : Nat), i < 6 → rowV (CM.mk 6 6703903964971298549787012499102923063739682910296196688861780721860882015036773488400937149083451713845015929093243025426876941405973284973216824503042048 [(900, Src.nm 900)]) foF.sh 0 (upd (upd (lrow 6703903964971298549787012499102923063739682910296196688861780721860882015036773488400937149083451713845015929093243025426876941405973284973216824503042048 2 (flS m f n S T ii).M j) (0 + ((avInt (f (0 + ii) 0)).tmod 6).toNat) 1 (oneOrAll [AV.ptr 1534401847451316501568682670387937102601550959082686620070292828795062717064691197601532855777767573664478133184793783285570589005883777993747747308505 0 0]).cells) (0 + ((avInt (f (0 + ii) 0)).tmod 6).toNat) 1 (ofVal (Value.pointer none)).cells i) (lrow 6703903964971298549787012499102923063739682910296196688861780721860882015036773488400937149083451713845015929093243025426876941405973284973216824503042048 2 (flS m f n (ppS1 S) (updW T j (FW.mk 0 of len E p u)) ii).M j i),
 true = true,
 (1 : Nat) ≤ (1 : Nat),
 tabF tab = tabF tab ∧ plainSh (List.map kindOfV tab) = true ∨ ∀ (i : Nat), i < 1 → rowOb (List.map kindOfV tab) 0 (tabF tab i) (tabF tab i),
 (popY S (PO.mk 1 0 0 0 false)).st = (ppS1 S).st,
 (popY S (PO.mk 1 0 0 0 false)).L.c = (ppS1 S).L.c,
 (popY S (PO.mk 1 0 0 0 false)).L.k = (ppS1 S).L.k,
 (popY S (PO.mk 1 0 0 0 false)).L.a = (ppS1 S).L.a,
 (popY S (PO.mk 1 0 0 0 false)).L.f = (ppS1 S).L.f,
 (popY S (PO.mk 1 0 0 0 false)).L.w = (ppS1 S).L.w,
 (popY S (PO.mk 1 0 0 0 false)).L.i = (ppS1 S).L.i,
 (popY S (PO.mk 1 0 0 0 false)).L.d = (ppS1 S).L.d,
 ∀ (k : List Int), (popY S (PO.mk 1 0 0 0 false)).M k = (ppS1 S).M k,
 true = true,
 m ≤ m,
 f = f ∧ plainSh [CK.int IntKind.u8] = true ∨ ∀ (i : Nat), i < m → rowOb [CK.int IntKind.u8] 0 (f i) (f i),
 (0 + ((avInt (f (0 + ii) 0)).tmod 6).toNat).blt 6 = true,
 (popX S (PO.mk 1 0 0 0 false)).ok = false,
 upd (lrow 6703903964971298549787012499102923063739682910296196688861780721860882015036773488400937149083451713845015929093243025426876941405973284973216824503042048 2 (flS m f n S T ii).M j) (0 + ((avInt (f (0 + ii) 0)).tmod 6).toNat) 1 (oneOrAll [AV.ptr 1534401847451316501568682670387937102601550959082686620070292828795062717064691197601532855777767573664478133184793783285570589005883777993747747308505 0 0]).cells (0 + ((avInt (f (0 + ii) 0)).tmod 6).toNat) 1 = AV.ptr 1534401847451316501568682670387937102601550959082686620070292828795062717064691197601532855777767573664478133184793783285570589005883777993747747308505 0 0,
 (0 + ((avInt (f (0 + ii) 0)).tmod 6).toNat).blt 6 = true,
 decide ((popX S (PO.mk 1 0 0 0 false)).ln = 0) = true,
 tabF tab = tabF tab,
 U64 S,
 Ln3 1,
 R64 0,
 upd (lrow 6703903964971298549787012499102923063739682910296196688861780721860882015036773488400937149083451713845015929093243025426876941405973284973216824503042048 2 (flS m f n S T ii).M j) (0 + ((avInt (f (0 + ii) 0)).tmod 6).toNat) 1 (oneOrAll [AV.ptr 1534401847451316501568682670387937102601550959082686620070292828795062717064691197601532855777767573664478133184793783285570589005883777993747747308505 0 0]).cells (0 + ((avInt (f (0 + ii) 0)).tmod 6).toNat) 1 = AV.ptr 1534401847451316501568682670387937102601550959082686620070292828795062717064691197601532855777767573664478133184793783285570589005883777993747747308505 0 0,
 (0 + ((avInt (f (0 + ii) 0)).tmod 6).toNat).blt 6 = true,
 upd (lrow 6703903964971298549787012499102923063739682910296196688861780721860882015036773488400937149083451713845015929093243025426876941405973284973216824503042048 2 (flS m f n S T ii).M j) (0 + ((avInt (f (0 + ii) 0)).tmod 6).toNat) 1 (oneOrAll [AV.ptr 1534401847451316501568682670387937102601550959082686620070292828795062717064691197601532855777767573664478133184793783285570589005883777993747747308505 0 0]).cells (0 + ((avInt (f (0 + ii) 0)).tmod 6).toNat) 1 = AV.ptr 1534401847451316501568682670387937102601550959082686620070292828795062717064691197601532855777767573664478133184793783285570589005883777993747747308505 0 0,
 (0 + ((avInt (f (0 + ii) 0)).tmod 6).toNat).blt 6 = true,
 (0 + ((avInt (f (0 + ii) 0)).tmod 6).toNat).blt 6 = true,
 ((IntKind.u8.wrap ((avInt (f (0 + ii) 0)).tdiv 6)).tmod 2 == 1) = false,
 lrow 6703903964971298549787012499102923063739682910296196688861780721860882015036773488400937149083451713845015929093243025426876941405973284973216824503042048 2 (flS m f n S T ii).M j (0 + ((avInt (f (0 + ii) 0)).tmod 6).toNat) 2 = AV.nilp,
 (0 + ((avInt (f (0 + ii) 0)).tmod 6).toNat).blt 6 = true,
 lrow 6703903964971298549787012499102923063739682910296196688861780721860882015036773488400937149083451713845015929093243025426876941405973284973216824503042048 2 (flS m f n S T ii).M j (0 + ((avInt (f (0 + ii) 0)).tmod 6).toNat) 1 = AV.nilp,
 (0 + ((avInt (f (0 + ii) 0)).tmod 6).toNat).blt 6 = true,
 (0 + ii).blt m = true,
 (ii.blt m && decide (0 ≤ Int.ofNat ii)) = true,
 (((avInt (f (0 + ii) 0)).tmod 6).toNat.blt 6 && decide (0 ≤ (avInt (f (0 + ii) 0)).tmod 6)) = true,
 (0 + ii).blt m = true,
 (ii.blt m && decide (0 ≤ Int.ofNat ii)) = true]) := by kernel_rfl
theorem fsB2x_ex (m : Nat) (f : Nat → Nat → AV) (n : Nat) (S : MS) (T : Nat → FW) (ii j of len : Nat) (E : Nat → Int) (p : PO) (u : UO) (kk : Nat) (hii : ii < m) (hj : j < 6) (hr0 : 0 ≤ (avInt (f (0 + ii) 0)).tmod 6) (hjt : ((avInt (f (0 + ii) 0)).tmod 6).toNat = j) (hT : T j = ⟨0, of, len, E, p, u⟩) (hu : U64 S) (hpv : ((IntKind.u8.wrap ((avInt (f (0 + ii) 0)).tdiv 6)).tmod 2 == 1) = false) (hz : (ppO1 S).ln = 0) (hk : (ppO1 S).ok = false) : FEx Tryd.prog foF (foU m f n) foStep (flS m f n S T ii) .norm (flS m f n (ppS1 S) (updW T j ⟨0, of, len, E, p, u⟩) ii) := by
  have hIX : (0 + ((avInt (f (0 + ii) 0)).tmod 6).toNat) = j := by rw [Nat.zero_add]; exact hjt
  have hii1 : (0 + ii).blt m = true := by rw [Nat.zero_add]; simpa [Nat.blt_eq] using hii
  have hii2 : (ii.blt m && decide (0 ≤ Int.ofNat ii)) = true := by rw [Bool.and_eq_true]; exact ⟨by simpa [Nat.blt_eq] using hii, decide_eq_true (by simp)⟩
  have hjb : (0 + ((avInt (f (0 + ii) 0)).tmod 6).toNat).blt 6 = true := by rw [hIX]; simpa [Nat.blt_eq] using hj
  have hjb2 : (((avInt (f (0 + ii) 0)).tmod 6).toNat.blt 6 && decide (0 ≤ (avInt (f (0 + ii) 0)).tmod 6)) = true := by rw [Bool.and_eq_true, hjt]; exact ⟨by simpa [Nat.blt_eq] using hj, decide_eq_true hr0⟩
  have hjt' : ((avInt (f ii 0)).tmod 6).toNat = j := by rw [← hjt, Nat.zero_add]
  have hz1 : decide ((ppO1 S).ln = 0) = true := decide_eq_true hz
  have po1 := po0_ok.l
  have po2 := po0_ok.h
  have q0 : (lrow fam0 2 (flS m f n S T ii).M j) (0 + ((avInt (f (0 + ii) 0)).tmod 6).toNat) 0 = AV.ss 1 900 of len none := by rw [hIX, lrow_j (mb := foMb ⟨0, of, len, E, p, u⟩) (by show foMb (T j) = _; rw [hT])]; rfl
  have q1 : (lrow fam0 2 (flS m f n S T ii).M j) (0 + ((avInt (f (0 + ii) 0)).tmod 6).toNat) 1 = AV.nilp := by rw [hIX, lrow_j (mb := foMb ⟨0, of, len, E, p, u⟩) (by show foMb (T j) = _; rw [hT])]; rfl
  have q2 : (lrow fam0 2 (flS m f n S T ii).M j) (0 + ((avInt (f (0 + ii) 0)).tmod 6).toNat) 2 = AV.nilp := by rw [hIX, lrow_j (mb := foMb ⟨0, of, len, E, p, u⟩) (by show foMb (T j) = _; rw [hT])]; rfl
  have u1 : (upd (lrow fam0 2 (flS m f n S T ii).M j) (0 + ((avInt (f (0 + ii) 0)).tmod 6).toNat) 1 [AV.ptr 1534401847451316501568682670387937102601550959082686620070292828795062717064691197601532855777767573664478133184793783285570589005883777993747747308505 0 0]) (0 + ((avInt (f (0 + ii) 0)).tmod 6).toNat) 1 = AV.ptr 1534401847451316501568682670387937102601550959082686620070292828795062717064691197601532855777767573664478133184793783285570589005883777993747747308505 0 0 := by simp [upd, nth]
  have r0 : (lrow fam0 2 (flS m f n S T ii).M j) j 0 = AV.ss 1 900 of len none := by rw [lrow_j (mb := foMb ⟨0, of, len, E, p, u⟩) (by show foMb (T j) = _; rw [hT])]; rfl
  have r1 : (lrow fam0 2 (flS m f n S T ii).M j) j 1 = AV.nilp := by rw [lrow_j (mb := foMb ⟨0, of, len, E, p, u⟩) (by show foMb (T j) = _; rw [hT])]; rfl
  have r2 : (lrow fam0 2 (flS m f n S T ii).M j) j 2 = AV.nilp := by rw [lrow_j (mb := foMb ⟨0, of, len, E, p, u⟩) (by show foMb (T j) = _; rw [hT])]; rfl
  have c0 : (upd (upd (lrow fam0 2 (flS m f n S T ii).M j) (0 + ((avInt (f (0 + ii) 0)).tmod 6).toNat) 1 [.ptr 1534401847451316501568682670387937102601550959082686620070292828795062717064691197601532855777767573664478133184793783285570589005883777993747747308505 0 0]) (0 + ((avInt (f (0 + ii) 0)).tmod 6).toNat) 1 [.nilp]) j 0 = AV.ss 1 900 of len none := by simp [upd, nth, hjt', r0]
  have c1 : (upd (upd (lrow fam0 2 (flS m f n S T ii).M j) (0 + ((avInt (f (0 + ii) 0)).tmod 6).toNat) 1 [.ptr 1534401847451316501568682670387937102601550959082686620070292828795062717064691197601532855777767573664478133184793783285570589005883777993747747308505 0 0]) (0 + ((avInt (f (0 + ii) 0)).tmod 6).toNat) 1 [.nilp]) j 1 = AV.nilp := by simp [upd, nth, hjt']
  have c2 : (upd (upd (lrow fam0 2 (flS m f n S T ii).M j) (0 + ((avInt (f (0 + ii) 0)).tmod 6).toNat) 1 [.ptr 1534401847451316501568682670387937102601550959082686620070292828795062717064691197601532855777767573664478133184793783285570589005883777993747747308505 0 0]) (0 + ((avInt (f (0 + ii) 0)).tmod 6).toNat) 1 [.nilp]) j 2 = AV.nilp := by simp [upd, nth, hjt', r2]
  have hrow : ∀ k0, k0 < 6 → rowV (CM.mk 6 fam0 [(900, Src.nm 900)]) [.val, .val, .val] 0 ((upd (upd (lrow fam0 2 (flS m f n S T ii).M j) (0 + ((avInt (f (0 + ii) 0)).tmod 6).toNat) 1 [.ptr 1534401847451316501568682670387937102601550959082686620070292828795062717064691197601532855777767573664478133184793783285570589005883777993747747308505 0 0]) (0 + ((avInt (f (0 + ii) 0)).tmod 6).toNat) 1 [.nilp]) k0) (lrow fam0 2 (flS m f n (ppS1 S) (updW T j ⟨0, of, len, E, p, u⟩) ii).M j k0) := fun k0 hk0 =>
    fam_rowsK (F := foF) (c := CM.mk 6 fam0 [(900, Src.nm 900)]) (n' := 6) (Nat.le_refl _) (M := fun k => foMb (T k)) (M' := fun k => foMb (updW T j ⟨0, of, len, E, p, u⟩ k)) (j := j) (src := (upd (upd (lrow fam0 2 (flS m f n S T ii).M j) (0 + ((avInt (f (0 + ii) 0)).tmod 6).toNat) 1 [.ptr 1534401847451316501568682670387937102601550959082686620070292828795062717064691197601532855777767573664478133184793783285570589005883777993747747308505 0 0]) (0 + ((avInt (f (0 + ii) 0)).tmod 6).toNat) 1 [.nilp])) (fun i _ hi => ⟨foMb_ok _, by show foMb (if i = j then _ else T i) = _; rw [if_neg hi], fun cc => by simp [upd, hjt', hi]; exact lrow_ne hi⟩)
      (fun _ => by show rowV _ [.val, .val, .val] 0 _ (fun cc => mrow 2 900 (foMb (if j = j then _ else T j)) cc); rw [if_pos rfl]; exact ⟨valV_eq c0 (valV_ss rfl), valV_eq c1 (valV_nilp), valV_eq c2 (valV_nilp), trivial⟩) k0 hk0
  refine fex_loc EFo_ok foFam foSOk j true true (mb := foMb ⟨0, of, len, E, p, u⟩) (mb' := foMb ⟨0, of, len, E, p, u⟩) (fsB2x_1 m f n S T ii j of len E p u kk) (cj ⟨rfl, rfl, rfl, rfl, rfl, rfl, rfl, rfl, rfl, rfl, rfl, Nat.le_refl _, .inl ⟨rfl, rfl⟩, rfl, Nat.le_refl _, hrow, rfl, Nat.le_refl _, .inl ⟨rfl, rfl⟩, rfl, rfl, rfl, rfl, rfl, rfl, rfl, rfl, (fun _ => rfl), rfl, Nat.le_refl _, .inl ⟨rfl, rfl⟩, (by with_reducible assumption), hk, u1, (by with_reducible assumption), hz1, rfl, (by with_reducible assumption), po1, po2, u1, (by with_reducible assumption), u1, (by with_reducible assumption), (by with_reducible assumption), (by with_reducible assumption), q2, (by with_reducible assumption), q1, (by with_reducible assumption), (by with_reducible assumption), (by with_reducible assumption), (by with_reducible assumption), (by with_reducible assumption), (by with_reducible assumption), trivial⟩) flGood flGood (fun _ => hj) (by show foMb (T j) = _; rw [hT]) (by show foMb (if j = j then _ else _) = _; rw [if_pos rfl]) (.inl ⟨rfl, hj⟩) (fun k hk hne => ⟨hk, by show foMb (if k = j then _ else T k) = foMb (T k); rw [if_neg hne]⟩)
theorem fsB1y_1 (m : Nat) (f : Nat → Nat → AV) (n : Nat) (S : MS) (T : Nat → FW) (ii j of len : Nat) (E : Nat → Int) (p : PO) (u : UO) (kk : Nat) : roundB EFo 3000 foStep (h0F foF (foU m f n)) [(900, Src.nm 900), (901, Src.nm 1534401847451316501568682670387937102601550959082686620070292828795062717064691197601532855777767573664478133184793783285570589005883777993747747308505)] (locSt foF (flS m f n S T ii) true (foMb (FW.mk 0 of len E p u)) j []) [Hint.node [(15, [Hint.a AV.nilp, Hint.a AV.nilp, Hint.b true, Hint.a (AV.ss 1 900 of len none), Hint.b false, Hint.a (AV.ptr 1534401847451316501568682670387937102601550959082686620070292828795062717064691197601532855777767573664478133184793783285570589005883777993747747308505 0 0), Hint.a (AV.ptr 1534401847451316501568682670387937102601550959082686620070292828795062717064691197601532855777767573664478133184793783285570589005883777993747747308505 0 0), Hint.b false])]] (locSt foF (flS m f n (ppS1 S) (updW T j (FW.mk 1 of len E (ppO1 S) u)) ii) true (foMb (FW.mk 1 of len E (ppO1 S) u)) j []) =
 some (Ex.norm, [(0 : Nat) = 0,
 m = m,
 (none : Option Nat) = none,
 Int.ofNat n = Int.ofNat n,
 (0 : Nat) = 0,
 (0 : Nat) = 0,
 (0 : Nat) = 0,
 (6 : Nat) = 6,
 some 6 = some 6,
 Int.ofNat ii = Int.ofNat ii,
 false = false,
 of + len ≤ of + len,
 LF E = LF E ∧ plainSh [CK.int IntKind.i64] = true ∨ ∀ (i : Nat), i < of + len → rowOb [CK.int IntKind.i64] 0 (LF E i) (LF E i),
 (popX S (PO.mk 1 0 0 0 false)).ln = (ppO1 S).ln,
 (popX S (PO.mk 1 0 0 0 false)).h = (ppO1 S).h,
 (popX S (PO.mk 1 0 0 0 false)).nx = (ppO1 S).nx,
 (popX S (PO.mk 1 0 0 0 false)).sl = (ppO1 S).sl,
 (popX S (PO.mk 1 0 0 0 false)).ok = (ppO1 S).ok,
 false = false,
 (6 : Nat) ≤ (6 : Nat),
 ∀ (i : Nat), i < 6 → rowV (CM.mk 6 6703903964971298549787012499102923063739682910296196688861780721860882015036773488400937149083451713845015929093243025426876941405973284973216824503042048 [(900, Src.nm 900), (901, Src.nm 1534401847451316501568682670387937102601550959082686620070292828795062717064691197601532855777767573664478133184793783285570589005883777993747747308505)]) foF.sh 0 (upd (lrow 6703903964971298549787012499102923063739682910296196688861780721860882015036773488400937149083451713845015929093243025426876941405973284973216824503042048 2 (flS m f n S T ii).M j) (0 + ((avInt (f (0 + ii) 0)).tmod 6).toNat) 1 (oneOrAll [AV.ptr 1534401847451316501568682670387937102601550959082686620070292828795062717064691197601532855777767573664478133184793783285570589005883777993747747308505 0 0]).cells i) (lrow 6703903964971298549787012499102923063739682910296196688861780721860882015036773488400937149083451713845015929093243025426876941405973284973216824503042048 2 (flS m f n (ppS1 S) (updW T j (FW.mk 1 of len E (ppO1 S) u)) ii).M j i),
 true = true,
 (1 : Nat) ≤ (1 : Nat),
 tabF tab = tabF tab ∧ plainSh (List.map kindOfV tab) = true ∨ ∀ (i : Nat), i < 1 → rowOb (List.map kindOfV tab) 0 (tabF tab i) (tabF tab i),
 (popY S (PO.mk 1 0 0 0 false)).st = (ppS1 S).st,
 (popY S (PO.mk 1 0 0 0 false)).L.c = (ppS1 S).L.c,
 (popY S (PO.mk 1 0 0 0 false)).L.k = (ppS1 S).L.k,
 (popY S (PO.mk 1 0 0 0 false)).L.a = (ppS1 S).L.a,
 (popY S (PO.mk 1 0 0 0 false)).L.f = (ppS1 S).L.f,
 (popY S (PO.mk 1 0 0 0 false)).L.w = (ppS1 S).L.w,
 (popY S (PO.mk 1 0 0 0 false)).L.i = (ppS1 S).L.i,
 (popY S (PO.mk 1 0 0 0 false)).L.d = (ppS1 S).L.d,
 ∀ (k : List Int), (popY S (PO.mk 1 0 0 0 false)).M k = (ppS1 S).M k,
 true = true,
 m ≤ m,
 f = f ∧ plainSh [CK.int IntKind.u8] = true ∨ ∀ (i : Nat), i < m → rowOb [CK.int IntKind.u8] 0 (f i) (f i),
 decide ((popX S (PO.mk 1 0 0 0 false)).ln = 0) = false,
 tabF tab = tabF tab,
 U64 S,
 Ln3 1,
 R64 0,
 upd (lrow 6703903964971298549787012499102923063739682910296196688861780721860882015036773488400937149083451713845015929093243025426876941405973284973216824503042048 2 (flS m f n S T ii).M j) (0 + ((avInt (f (0 + ii) 0)).tmod 6).toNat) 1 (oneOrAll [AV.ptr 1534401847451316501568682670387937102601550959082686620070292828795062717064691197601532855777767573664478133184793783285570589005883777993747747308505 0 0]).cells (0 + ((avInt (f (0 + ii) 0)).tmod 6).toNat) 1 = AV.ptr 1534401847451316501568682670387937102601550959082686620070292828795062717064691197601532855777767573664478133184793783285570589005883777993747747308505 0 0,
 (0 + ((avInt (f (0 + ii) 0)).tmod 6).toNat).blt 6 = true,
 upd (lrow 6703903964971298549787012499102923063739682910296196688861780721860882015036773488400937149083451713845015929093243025426876941405973284973216824503042048 2 (flS m f n S T ii).M j) (0 + ((avInt (f (0 + ii) 0)).tmod 6).toNat) 1 (oneOrAll [AV.ptr 1534401847451316501568682670387937102601550959082686620070292828795062717064691197601532855777767573664478133184793783285570589005883777993747747308505 0 0]).cells (0 + ((avInt (f (0 + ii) 0)).tmod 6).toNat) 1 = AV.ptr 1534401847451316501568682670387937102601550959082686620070292828795062717064691197601532855777767573664478133184793783285570589005883777993747747308505 0 0,
 (0 + ((avInt (f (0 + ii) 0)).tmod 6).toNat).blt 6 = true,
 (0 + ((avInt (f (0 + ii) 0)).tmod 6).toNat).blt 6 = true,
 decide (Int.ofNat len > 0) = false,
 lrow 6703903964971298549787012499102923063739682910296196688861780721860882015036773488400937149083451713845015929093243025426876941405973284973216824503042048 2 (flS m f n S T ii).M j (0 + ((avInt (f (0 + ii) 0)).tmod 6).toNat) 0 = AV.ss 1 900 of len none,
 (0 + ((avInt (f (0 + ii) 0)).tmod 6).toNat).blt 6 = true,
 ((IntKind.u8.wrap ((avInt (f (0 + ii) 0)).tdiv 6)).tmod 2 == 1) = true,
 lrow 6703903964971298549787012499102923063739682910296196688861780721860882015036773488400937149083451713845015929093243025426876941405973284973216824503042048 2 (flS m f n S T ii).M j (0 + ((avInt (f (0 + ii) 0)).tmod 6).toNat) 2 = AV.nilp,
 (0 + ((avInt (f (0 + ii) 0)).tmod 6).toNat).blt 6 = true,
 lrow 6703903964971298549787012499102923063739682910296196688861780721860882015036773488400937149083451713845015929093243025426876941405973284973216824503042048 2 (flS m f n S T ii).M j (0 + ((avInt (f (0 + ii) 0)).tmod 6).toNat) 1 = AV.nilp,
 (0 + ((avInt (f (0 + ii) 0)).tmod 6).toNat).blt 6 = true,
 (0 + ii).blt m = true,
 (ii.blt m && decide (0 ≤ Int.ofNat ii)) = true,
 (((avInt (f (0 + ii) 0)).tmod 6).toNat.blt 6 && decide (0 ≤ (avInt (f (0 + ii) 0)).tmod 6)) = true,
 (0 + ii).blt m = true,
 (ii.blt m && decide (0 ≤ Int.ofNat ii)) = true]) := by kernel_rfl
theorem fsB1y_ex (m : Nat) (f : Nat → Nat → AV) (n : Nat) (S : MS) (T : Nat → FW) (ii j of len : Nat) (E : Nat → Int) (p : PO) (u : UO) (kk : Nat) (hii : ii < m) (hj : j < 6) (hr0 : 0 ≤ (avInt (f (0 + ii) 0)).tmod 6) (hjt : ((avInt (f (0 + ii) 0)).tmod 6).toNat = j) (hT : T j = ⟨0, of, len, E, p, u⟩) (hu : U64 S) (hpv : ((IntKind.u8.wrap ((avInt (f (0 + ii) 0)).tdiv 6)).tmod 2 == 1) = true) (hl : len = 0) (hz : (ppO1 S).ln ≠ 0) : FEx Tryd.prog foF (foU m f n) foStep (flS m f n S T ii) .norm (flS m f n (ppS1 S) (updW T j ⟨1, of, len, E, ppO1 S, u⟩) ii) := by
  have hIX : (0 + ((avInt (f (0 + ii) 0)).tmod 6).toNat) = j := by rw [Nat.zero_add]; exact hjt
  have hii1 : (0 + ii).blt m = true := by rw [Nat.zero_add]; simpa [Nat.blt_eq] using hii
  have hii2 : (ii.blt m && decide (0 ≤ Int.ofNat ii)) = true := by rw [Bool.and_eq_true]; exact ⟨by simpa [Nat.blt_eq] using hii, decide_eq_true (by simp)⟩
  have hjb : (0 + ((avInt (f (0 + ii) 0)).tmod 6).toNat).blt 6 = true := by rw [hIX]; simpa [Nat.blt_eq] using hj
  have hjb2 : (((avInt (f (0 + ii) 0)).tmod 6).toNat.blt 6 && decide (0 ≤ (avInt (f (0 + ii) 0)).tmod 6)) = true := by rw [Bool.and_eq_true, hjt]; exact ⟨by simpa [Nat.blt_eq] using hj, decide_eq_true hr0⟩
  have hjt' : ((avInt (f ii 0)).tmod 6).toNat = j := by rw [← hjt, Nat.zero_add]
  have hlf : decide (Int.ofNat len > 0) = false := decide_eq_false (by simp; omega)
  have hz1 : decide ((ppO1 S).ln = 0) = false := decide_eq_false hz
  have po1 := po0_ok.l
  have po2 := po0_ok.h
  have q0 : (lrow fam0 2 (flS m f n S T ii).M j) (0 + ((avInt (f (0 + ii) 0)).tmod 6).toNat) 0 = AV.ss 1 900 of len none := by rw [hIX, lrow_j (mb := foMb ⟨0, of, len, E, p, u⟩) (by show foMb (T j) = _; rw [hT])]; rfl
  have q1 : (lrow fam0 2 (flS m f n S T ii).M j) (0 + ((avInt (f (0 + ii) 0)).tmod 6).toNat) 1 = AV.nilp := by rw [hIX, lrow_j (mb := foMb ⟨0, of, len, E, p, u⟩) (by show foMb (T j) = _; rw [hT])]; rfl
  have q2 : (lrow fam0 2 (flS m f n S T ii).M j) (0 + ((avInt (f (0 + ii) 0)).tmod 6).toNat) 2 = AV.nilp := by rw [hIX, lrow_j (mb := foMb ⟨0, of, len, E, p, u⟩) (by show foMb (T j) = _; rw [hT])]; rfl
  have u1 : (upd (lrow fam0 2 (flS m f n S T ii).M j) (0 + ((avInt (f (0 + ii) 0)).tmod 6).toNat) 1 [AV.ptr 1534401847451316501568682670387937102601550959082686620070292828795062717064691197601532855777767573664478133184793783285570589005883777993747747308505 0 0]) (0 + ((avInt (f (0 + ii) 0)).tmod 6).toNat) 1 = AV.ptr 1534401847451316501568682670387937102601550959082686620070292828795062717064691197601532855777767573664478133184793783285570589005883777993747747308505 0 0 := by simp [upd, nth]
  have r0 : (lrow fam0 2 (flS m f n S T ii).M j) j 0 = AV.ss 1 900 of len none := by rw [lrow_j (mb := foMb ⟨0, of, len, E, p, u⟩) (by show foMb (T j) = _; rw [hT])]; rfl
  have r1 : (lrow fam0 2 (flS m f n S T ii).M j) j 1 = AV.nilp := by rw [lrow_j (mb := foMb ⟨0, of, len, E, p, u⟩) (by show foMb (T j) = _; rw [hT])]; rfl
  have r2 : (lrow fam0 2 (flS m f n S T ii).M j) j 2 = AV.nilp := by rw [lrow_j (mb := foMb ⟨0, of, len, E, p, u⟩) (by show foMb (T j) = _; rw [hT])]; rfl
  have c0 : (upd (lrow fam0 2 (flS m f n S T ii).M j) (0 + ((avInt (f (0 + ii) 0)).tmod 6).toNat) 1 [.ptr 1534401847451316501568682670387937102601550959082686620070292828795062717064691197601532855777767573664478133184793783285570589005883777993747747308505 0 0]) j 0 = AV.ss 1 900 of len none := by simp [upd, nth, hjt', r0]
  have c1 : (upd (lrow fam0 2 (flS m f n S T ii).M j) (0 + ((avInt (f (0 + ii) 0)).tmod 6).toNat) 1 [.ptr 1534401847451316501568682670387937102601550959082686620070292828795062717064691197601532855777767573664478133184793783285570589005883777993747747308505 0 0]) j 1 = AV.ptr 1534401847451316501568682670387937102601550959082686620070292828795062717064691197601532855777767573664478133184793783285570589005883777993747747308505 0 0 := by simp [upd, nth, hjt']
  have c2 : (upd (lrow fam0 2 (flS m f n S T ii).M j) (0 + ((avInt (f (0 + ii) 0)).tmod 6).toNat) 1 [.ptr 1534401847451316501568682670387937102601550959082686620070292828795062717064691197601532855777767573664478133184793783285570589005883777993747747308505 0 0]) j 2 = AV.nilp := by simp [upd, nth, hjt', r2]
  have hrow : ∀ k0, k0 < 6 → rowV (CM.mk 6 fam0 [(900, Src.nm 900), (901, Src.nm 1534401847451316501568682670387937102601550959082686620070292828795062717064691197601532855777767573664478133184793783285570589005883777993747747308505)]) [.val, .val, .val] 0 ((upd (lrow fam0 2 (flS m f n S T ii).M j) (0 + ((avInt (f (0 + ii) 0)).tmod 6).toNat) 1 [.ptr 1534401847451316501568682670387937102601550959082686620070292828795062717064691197601532855777767573664478133184793783285570589005883777993747747308505 0 0]) k0) (lrow fam0 2 (flS m f n (ppS1 S) (updW T j ⟨1, of, len, E, ppO1 S, u⟩) ii).M j k0) := fun k0 hk0 =>
    fam_rowsK (F := foF) (c := CM.mk 6 fam0 [(900, Src.nm 900), (901, Src.nm 1534401847451316501568682670387937102601550959082686620070292828795062717064691197601532855777767573664478133184793783285570589005883777993747747308505)]) (n' := 6) (Nat.le_refl _) (M := fun k => foMb (T k)) (M' := fun k => foMb (updW T j ⟨1, of, len, E, ppO1 S, u⟩ k)) (j := j) (src := (upd (lrow fam0 2 (flS m f n S T ii).M j) (0 + ((avInt (f (0 + ii) 0)).tmod 6).toNat) 1 [.ptr 1534401847451316501568682670387937102601550959082686620070292828795062717064691197601532855777767573664478133184793783285570589005883777993747747308505 0 0])) (fun i _ hi => ⟨foMb_ok _, by show foMb (if i = j then _ else T i) = _; rw [if_neg hi], fun cc => by simp [upd, hjt', hi]; exact lrow_ne hi⟩)
      (fun _ => by show rowV _ [.val, .val, .val] 0 _ (fun cc => mrow 2 900 (foMb (if j = j then _ else T j)) cc); rw [if_pos rfl]; exact ⟨valV_eq c0 (valV_ss rfl), valV_eq c1 (valV_ptr (n := 901) rfl), valV_eq c2 (valV_nilp), trivial⟩) k0 hk0
  refine fex_loc EFo_ok foFam foSOk j true true (mb := foMb ⟨0, of, len, E, p, u⟩) (mb' := foMb ⟨1, of, len, E, ppO1 S, u⟩) (fsB1y_1 m f n S T ii j of len E p u kk) (cj ⟨rfl, rfl, rfl, rfl, rfl, rfl, rfl, rfl, rfl, rfl, rfl, Nat.le_refl _, .inl ⟨rfl, rfl⟩, rfl, rfl, rfl, rfl, rfl, rfl, Nat.le_refl _, hrow, rfl, Nat.le_refl _, .inl ⟨rfl, rfl⟩, rfl, rfl, rfl, rfl, rfl, rfl, rfl, rfl, (fun _ => rfl), rfl, Nat.le_refl _, .inl ⟨rfl, rfl⟩, hz1, rfl, (by with_reducible assumption), po1, po2, u1, (by with_reducible assumption), u1, (by with_reducible assumption), (by with_reducible assumption), (by with_reducible assumption), q0, (by with_reducible assumption), (by with_reducible assumption), q2, (by with_reducible assumption), q1, (by with_reducible assumption), (by with_reducible assumption), (by with_reducible assumption), (by with_reducible assumption), (by with_reducible assumption), (by with_reducible assumption), trivial⟩) flGood flGood (fun _ => hj) (by show foMb (T j) = _; rw [hT]) (by show foMb (if j = j then _ else _) = _; rw [if_pos rfl]) (.inl ⟨rfl, hj⟩) (fun k hk hne => ⟨hk, by show foMb (if k = j then _ else T k) = foMb (T k); rw [if_neg hne]⟩)
theorem fsB2y_1 (m : Nat) (f : Nat → Nat → AV) (n : Nat) (S : MS) (T : Nat → FW) (ii j of len : Nat) (E : Nat → Int) (p : PO) (u : UO) (kk : Nat) : roundB EFo 3000 foStep (h0F foF (foU m f n)) [(900, Src.nm 900)] (locSt foF (flS m f n S T ii) true (foMb (FW.mk 0 of len E p u)) j []) [Hint.node [(15, [Hint.a AV.nilp, Hint.a AV.nilp, Hint.b true, Hint.a (AV.ss 1 900 of len none), Hint.b false, Hint.a (AV.ptr 1534401847451316501568682670387937102601550959082686620070292828795062717064691197601532855777767573664478133184793783285570589005883777993747747308505 0 0), Hint.a (AV.ptr 1534401847451316501568682670387937102601550959082686620070292828795062717064691197601532855777767573664478133184793783285570589005883777993747747308505 0 0), Hint.b true, Hint.a (AV.ptr 1534401847451316501568682670387937102601550959082686620070292828795062717064691197601532855777767573664478133184793783285570589005883777993747747308505 0 0), Hint.b false])]] (locSt foF (flS m f n (ppS1 S) (updW T j (FW.mk 0 of len E p u)) ii) true (foMb (FW.mk 0 of len E p u)) j []) =
 some (Ex.norm, [(0 : Nat) = 0,
 m = m,
 (none : Option Nat) = none,
 Int.ofNat n = Int.ofNat n,
 (0 : Nat) = 0,
 (0 : Nat) = 0,
 (0 : Nat) = 0,
 (6 : Nat) = 6,
 some 6 = some 6,
 Int.ofNat ii = Int.ofNat ii,
 false = false,
 of + len ≤ of + len,
 LF E = LF E ∧ plainSh [CK.int IntKind.i64] = true ∨ ∀ (i : Nat), i < of + len → rowOb [CK.int IntKind.i64] 0 (LF E i) (LF E i),
 false = false,
 (6 : Nat) ≤ (6 : Nat),
 ∀ (i : Nat), i < 6 → rowV (CM.mk 6 6703903964971298549787012499102923063739682910296196688861780721860882015036773488400937149083451713845015929093243025426876941405973284973216824503042048 [(900, Src.nm 900)]) foF.sh 0 (upd (upd (lrow 6703903964971298549787012499102923063739682910296196688861780721860882015036773488400937149083451713845015929093243025426876941405973284973216824503042048 2 (flS m f n S T ii).M j) (0 + ((avInt (f (0 + ii) 0)).tmod 6).toNat) 1 (oneOrAll [AV.ptr 1534401847451316501568682670387937102601550959082686620070292828795062717064691197601532855777767573664478133184793783285570589005883777993747747308505 0 0]).cells) (0 + ((avInt (f (0 + ii) 0)).tmod 6).toNat) 1 (ofVal (Value.pointer none)).cells i) (lrow 6703903964971298549787012499102923063739682910296196688861780721860882015036773488400937149083451713845015929093243025426876941405973284973216824503042048 2 (flS m f n (ppS1 S) (updW T j (FW.mk 0 of len E p u)) ii).M j i),
 true = true,
 (1 : Nat) ≤ (1 : Nat),
 tabF tab = tabF tab ∧ plainSh (List.map kindOfV tab) = true ∨ ∀ (i : Nat), i < 1 → rowOb (List.map kindOfV tab) 0 (tabF tab i) (tabF tab i),
 (popY S (PO.mk 1 0 0 0 false)).st = (ppS1 S).st,
 (popY S (PO.mk 1 0 0 0 false)).L.c = (ppS1 S).L.c,
 (popY S (PO.mk 1 0 0 0 false)).L.k = (ppS1 S).L.k,
 (popY S (PO.mk 1 0 0 0 false)).L.a = (ppS1 S).L.a,
 (popY S (PO.mk 1 0 0 0 false)).L.f = (ppS1 S).L.f,
 (popY S (PO.mk 1 0 0 0 false)).L.w = (ppS1 S).L.w,
 (popY S (PO.mk 1 0 0 0 false)).L.i = (ppS1 S).L.i,
 (popY S (PO.mk 1 0 0 0 false)).L.d = (ppS1 S).L.d,
 ∀ (k : List Int), (popY S (PO.mk 1 0 0 0 false)).M k = (ppS1 S).M k,
 true = true,
 m ≤ m,
 f = f ∧ plainSh [CK.int IntKind.u8] = true ∨ ∀ (i : Nat), i < m → rowOb [CK.int IntKind.u8] 0 (f i) (f i),
 (0 + ((avInt (f (0 + ii) 0)).tmod 6).toNat).blt 6 = true,
 (popX S (PO.mk 1 0 0 0 false)).ok = false,
 upd (lrow 6703903964971298549787012499102923063739682910296196688861780721860882015036773488400937149083451713845015929093243025426876941405973284973216824503042048 2 (flS m f n S T ii).M j) (0 + ((avInt (f (0 + ii) 0)).tmod 6).toNat) 1 (oneOrAll [AV.ptr 1534401847451316501568682670387937102601550959082686620070292828795062717064691197601532855777767573664478133184793783285570589005883777993747747308505 0 0]).cells (0 + ((avInt (f (0 + ii) 0)).tmod 6).toNat) 1 = AV.ptr 1534401847451316501568682670387937102601550959082686620070292828795062717064691197601532855777767573664478133184793783285570589005883777993747747308505 0 0,
 (0 + ((avInt (f (0 + ii) 0)).tmod 6).toNat).blt 6 = true,
 decide ((popX S (PO.mk 1 0 0 0 false)).ln = 0) = true,
 tabF tab = tabF tab,
 U64 S,
 Ln3 1,
 R64 0,
 upd (lrow 6703903964971298549787012499102923063739682910296196688861780721860882015036773488400937149083451713845015929093243025426876941405973284973216824503042048 2 (flS m f n S T ii).M j) (0 + ((avInt (f (0 + ii) 0)).tmod 6).toNat) 1 (oneOrAll [AV.ptr 1534401847451316501568682670387937102601550959082686620070292828795062717064691197601532855777767573664478133184793783285570589005883777993747747308505 0 0]).cells (0 + ((avInt (f (0 + ii) 0)).tmod 6).toNat) 1 = AV.ptr 1534401847451316501568682670387937102601550959082686620070292828795062717064691197601532855777767573664478133184793783285570589005883777993747747308505 0 0,
 (0 + ((avInt (f (0 + ii) 0)).tmod 6).toNat).blt 6 = true,
 upd (lrow 6703903964971298549787012499102923063739682910296196688861780721860882015036773488400937149083451713845015929093243025426876941405973284973216824503042048 2 (flS m f n S T ii).M j) (0 + ((avInt (f (0 + ii) 0)).tmod 6).toNat) 1 (oneOrAll [AV.ptr 1534401847451316501568682670387937102601550959082686620070292828795062717064691197601532855777767573664478133184793783285570589005883777993747747308505 0 0]).cells (0 + ((avInt (f (0 + ii) 0)).tmod 6).toNat) 1 = AV.ptr 1534401847451316501568682670387937102601550959082686620070292828795062717064691197601532855777767573664478133184793783285570589005883777993747747308505 0 0,
 (0 + ((avInt (f (0 + ii) 0)).tmod 6).toNat).blt 6 = true,
 (0 + ((avInt (f (0 + ii) 0)).tmod 6).toNat).blt 6 = true,
 decide (Int.ofNat len > 0) = false,
 lrow 6703903964971298549787012499102923063739682910296196688861780721860882015036773488400937149083451713845015929093243025426876941405973284973216824503042048 2 (flS m f n S T ii).M j (0 + ((avInt (f (0 + ii) 0)).tmod 6).toNat) 0 = AV.ss 1 900 of len none,
 (0 + ((avInt (f (0 + ii) 0)).tmod 6).toNat).blt 6 = true,
 ((IntKind.u8.wrap ((avInt (f (0 + ii) 0)).tdiv 6)).tmod 2 == 1) = true,
 lrow 6703903964971298549787012499102923063739682910296196688861780721860882015036773488400937149083451713845015929093243025426876941405973284973216824503042048 2 (flS m f n S T ii).M j (0 + ((avInt (f (0 + ii) 0)).tmod 6).toNat) 2 = AV.nilp,
 (0 + ((avInt (f (0 + ii) 0)).tmod 6).toNat).blt 6 = true,
 lrow 6703903964971298549787012499102923063739682910296196688861780721860882015036773488400937149083451713845015929093243025426876941405973284973216824503042048 2 (flS m f n S T ii).M j (0 + ((avInt (f (0 + ii) 0)).tmod 6).toNat) 1 = AV.nilp,
 (0 + ((avInt (f (0 + ii) 0)).tmod 6).toNat).blt 6 = true,
 (0 + ii).blt m = true,
 (ii.blt m && decide (0 ≤ Int.ofNat ii)) = true,
 (((avInt (f (0 + ii) 0)).tmod 6).toNat.blt 6 && decide (0 ≤ (avInt (f (0 + ii) 0)).tmod 6)) = true,
 (0 + ii).blt m = true,
 (ii.blt m && decide (0 ≤ Int.ofNat ii)) = true]) := by kernel_rfl
theorem fsB2y_ex (m : Nat) (f : Nat → Nat → AV) (n : Nat) (S : MS) (T : Nat → FW) (ii j of len : Nat) (E : Nat → Int) (p : PO) (u : UO) (kk : Nat) (hii : ii < m) (hj : j < 6) (hr0 : 0 ≤ (avInt (f (0 + ii) 0)).tmod 6) (hjt : ((avInt (f (0 + ii) 0)).tmod 6).toNat = j) (hT : T j = ⟨0, of, len, E, p, u⟩) (hu : U64 S) (hpv : ((IntKind.u8.wrap ((avInt (f (0 + ii) 0)).tdiv 6)).tmod 2 == 1) = true) (hl : len = 0) (hz : (ppO1 S).ln = 0) (hk : (ppO1 S).ok = false) : FEx Tryd.prog foF (foU m f n) foStep (flS m f n S T ii) .norm (flS m f n (ppS1 S) (updW T j ⟨0, of, len, E, p, u⟩) ii) := by
  have hIX : (0 + ((avInt (f (0 + ii) 0)).tmod 6).toNat) = j := by rw [Nat.zero_add]; exact hjt
  have hii1 : (0 + ii).blt m = true := by rw [Nat.zero_add]; simpa [Nat.blt_eq] using hii
  have hii2 : (ii.blt m && decide (0 ≤ Int.ofNat ii)) = true := by rw [Bool.and_eq_true]; exact ⟨by simpa [Nat.blt_eq] using hii, decide_eq_true (by simp)⟩
  have hjb : (0 + ((avInt (f (0 + ii) 0)).tmod 6).toNat).blt 6 = true := by rw [hIX]; simpa [Nat.blt_eq] using hj
  have hjb2 : (((avInt (f (0 + ii) 0)).tmod 6).toNat.blt 6 && decide (0 ≤ (avInt (f (0 + ii) 0)).tmod 6)) = true := by rw [Bool.and_eq_true, hjt]; exact ⟨by simpa [Nat.blt_eq] using hj, decide_eq_true hr0⟩
  have hjt' : ((avInt (f ii 0)).tmod 6).toNat = j := by rw [← hjt, Nat.zero_add]
  have hlf : decide (Int.ofNat len > 0) = false := decide_eq_false (by simp; omega)
  have hz1 : decide ((ppO1 S).ln = 0) = true := decide_eq_true hz
  have po1 := po0_ok.l
  have po2 := po0_ok.h
  have q0 : (lrow fam0 2 (flS m f n S T ii).M j) (0 + ((avInt (f (0 + ii) 0)).tmod 6).toNat) 0 = AV.ss 1 900 of len none := by rw [hIX, lrow_j (mb := foMb ⟨0, of, len, E, p, u⟩) (by show foMb (T j) = _; rw [hT])]; rfl
  have q1 : (lrow fam0 2 (flS m f n S T ii).M j) (0 + ((avInt (f (0 + ii) 0)).tmod 6).toNat) 1 = AV.nilp := by rw [hIX, lrow_j (mb := foMb ⟨0, of, len, E, p, u⟩) (by show foMb (T j) = _; rw [hT])]; rfl
  have q2 : (lrow fam0 2 (flS m f n S T ii).M j) (0 + ((avInt (f (0 + ii) 0)).tmod 6).toNat) 2 = AV.nilp := by rw [hIX, lrow_j (mb := foMb ⟨0, of, len, E, p, u⟩) (by show foMb (T j) = _; rw [hT])]; rfl
  have u1 : (upd (lrow fam0 2 (flS m f n S T ii).M j) (0 + ((avInt (f (0 + ii) 0)).tmod 6).toNat) 1 [AV.ptr 1534401847451316501568682670387937102601550959082686620070292828795062717064691197601532855777767573664478133184793783285570589005883777993747747308505 0 0]) (0 + ((avInt (f (0 + ii) 0)).tmod 6).toNat) 1 = AV.ptr 1534401847451316501568682670387937102601550959082686620070292828795062717064691197601532855777767573664478133184793783285570589005883777993747747308505 0 0 := by simp [upd, nth]
  have r0 : (lrow fam0 2 (flS m f n S T ii).M j) j 0 = AV.ss 1 900 of len none := by rw [lrow_j (mb := foMb ⟨0, of, len, E, p, u⟩) (by show foMb (T j) = _; rw [hT])]; rfl
  have r1 : (lrow fam0 2 (flS m f n S T ii).M j) j 1 = AV.nilp := by rw [lrow_j (mb := foMb ⟨0, of, len, E, p, u⟩) (by show foMb (T j) = _; rw [hT])]; rfl
  have r2 : (lrow fam0 2 (flS m f n S T ii).M j) j 2 = AV.nilp := by rw [lrow_j (mb := foMb ⟨0, of, len, E, p, u⟩) (by show foMb (T j) = _; rw [hT])]; rfl
  have c0 : (upd (upd (lrow fam0 2 (flS m f n S T ii).M j) (0 + ((avInt (f (0 + ii) 0)).tmod 6).toNat) 1 [.ptr 1534401847451316501568682670387937102601550959082686620070292828795062717064691197601532855777767573664478133184793783285570589005883777993747747308505 0 0]) (0 + ((avInt (f (0 + ii) 0)).tmod 6).toNat) 1 [.nilp]) j 0 = AV.ss 1 900 of len none := by simp [upd, nth, hjt', r0]
  have c1 : (upd (upd (lrow fam0 2 (flS m f n S T ii).M j) (0 + ((avInt (f (0 + ii) 0)).tmod 6).toNat) 1 [.ptr 1534401847451316501568682670387937102601550959082686620070292828795062717064691197601532855777767573664478133184793783285570589005883777993747747308505 0 0]) (0 + ((avInt (f (0 + ii) 0)).tmod 6).toNat) 1 [.nilp]) j 1 = AV.nilp := by simp [upd, nth, hjt']
  have c2 : (upd (upd (lrow fam0 2 (flS m f n S T ii).M j) (0 + ((avInt (f (0 + ii) 0)).tmod 6).toNat) 1 [.ptr 1534401847451316501568682670387937102601550959082686620070292828795062717064691197601532855777767573664478133184793783285570589005883777993747747308505 0 0]) (0 + ((avInt (f (0 + ii) 0)).tmod 6).toNat) 1 [.nilp]) j 2 = AV.nilp := by simp [upd, nth, hjt', r2]
  have hrow : ∀ k0, k0 < 6 → rowV (CM.mk 6 fam0 [(900, Src.nm 900)]) [.val, .val, .val] 0 ((upd (upd (lrow fam0 2 (flS m f n S T ii).M j) (0 + ((avInt (f (0 + ii) 0)).tmod 6).toNat) 1 [.ptr 1534401847451316501568682670387937102601550959082686620070292828795062717064691197601532855777767573664478133184793783285570589005883777993747747308505 0 0]) (0 + ((avInt (f (0 + ii) 0)).tmod 6).toNat) 1 [.nilp]) k0) (lrow fam0 2 (flS m f n (ppS1 S) (updW T j ⟨0, of, len, E, p, u⟩) ii).M j k0) := fun k0 hk0 =>
    fam_rowsK (F := foF) (c := CM.mk 6 fam0 [(900, Src.nm 900)]) (n' := 6) (Nat.le_refl _) (M := fun k => foMb (T k)) (M' := fun k => foMb (updW T j ⟨0, of, len, E, p, u⟩ k)) (j := j) (src := (upd (upd (lrow fam0 2 (flS m f n S T ii).M j) (0 + ((avInt (f (0 + ii) 0)).tmod 6).toNat) 1 [.ptr 1534401847451316501568682670387937102601550959082686620070292828795062717064691197601532855777767573664478133184793783285570589005883777993747747308505 0 0]) (0 + ((avInt (f (0 + ii) 0)).tmod 6).toNat) 1 [.nilp])) (fun i _ hi => ⟨foMb_ok _, by show foMb (if i = j then _ else T i) = _; rw [if_neg hi], fun cc => by simp [upd, hjt', hi]; exact lrow_ne hi⟩)
      (fun _ => by show rowV _ [.val, .val, .val] 0 _ (fun cc => mrow 2 900 (foMb (if j = j then _ else T j)) cc); rw [if_pos rfl]; exact ⟨valV_eq c0 (valV_ss rfl), valV_eq c1 (valV_nilp), valV_eq c2 (valV_nilp), trivial⟩) k0 hk0
  refine fex_loc EFo_ok foFam foSOk j true true (mb := foMb ⟨0, of, len, E, p, u⟩) (mb' := foMb ⟨0, of, len, E, p, u⟩) (fsB2y_1 m f n S T ii j of len E p u kk) (cj ⟨rfl, rfl, rfl, rfl, rfl, rfl, rfl, rfl, rfl, rfl, rfl, Nat.le_refl _, .inl ⟨rfl, rfl⟩, rfl, Nat.le_refl _, hrow, rfl, Nat.le_refl _, .inl ⟨rfl, rfl⟩, rfl, rfl, rfl, rfl, rfl, rfl, rfl, rfl, (fun _ => rfl), rfl, Nat.le_refl _, .inl ⟨rfl, rfl⟩, (by with_reducible assumption), hk, u1, (by with_reducible assumption), hz1, rfl, (by with_reducible assumption), po1, po2, u1, (by with_reducible assumption), u1, (by with_reducible assumption), (by with_reducible assumption), (by with_reducible assumption), q0, (by with_reducible assumption), (by with_reducible assumption), q2, (by with_reducible assumption), q1, (by with_reducible assumption), (by with_reducible assumption), (by with_reducible assumption), (by with_reducible assumption), (by with_reducible assumption), (by with_reducible assumption), trivial⟩) flGood flGood (fun _ => hj) (by show foMb (T j) = _; rw [hT]) (by show foMb (if j = j then _ else _) = _; rw [if_pos rfl]) (.inl ⟨rfl, hj⟩) (fun k hk hne => ⟨hk, by show foMb (if k = j then _ else T k) = foMb (T k); rw [if_neg hne]⟩)
theorem fsC1_1 (m : Nat) (f : Nat → Nat → AV) (n : Nat) (S : MS) (T : Nat → FW) (ii j of len : Nat) (E : Nat → Int) (p : PO) (u : UO) (kk : Nat) : roundB EFo 3000 foStep (h0F foF (foU m f n)) [(900, Src.nm 900), (901, Src.nm 901)] (locSt foF (flS m f n S T ii) true (foMb (FW.mk 1 of len E p u)) j []) [Hint.node [(15, [Hint.a (AV.ptr 901 0 0), Hint.a (AV.ptr 901 0 0), Hint.a (AV.ptr 901 0 0), Hint.b false])]] (locSt foF (flS m f n (popY S p) (updW T j (FW.mk 1 of len E (popX S p) u)) ii) true (foMb (FW.mk 1 of len E (popX S p) u)) j []) =
 some (Ex.norm, [(0 : Nat) = 0,
 m = m,
 (none : Option Nat) = none,
 Int.ofNat n = Int.ofNat n,
 (0 : Nat) = 0,
 (0 : Nat) = 0,
 (0 : Nat) = 0,
 (6 : Nat) = 6,
 some 6 = some 6,
 Int.ofNat ii = Int.ofNat ii,
 false = false,
 of + len ≤ of + len,
 LF E = LF E ∧ plainSh [CK.int IntKind.i64] = true ∨ ∀ (i : Nat), i < of + len → rowOb [CK.int IntKind.i64] 0 (LF E i) (LF E i),
 (popX S p).ln = (popX S p).ln,
 (popX S p).h = (popX S p).h,
 (popX S p).nx = (popX S p).nx,
 (popX S p).sl = (popX S p).sl,
 (popX S p).ok = (popX S p).ok,
 false = false,
 (6 : Nat) ≤ (6 : Nat),
 ∀ (i : Nat), i < 6 → rowV (CM.mk 6 6703903964971298549787012499102923063739682910296196688861780721860882015036773488400937149083451713845015929093243025426876941405973284973216824503042048 [(900, Src.nm 900), (901, Src.nm 901)]) foF.sh 0 (lrow 6703903964971298549787012499102923063739682910296196688861780721860882015036773488400937149083451713845015929093243025426876941405973284973216824503042048 2 (flS m f n S T ii).M j i) (lrow 6703903964971298549787012499102923063739682910296196688861780721860882015036773488400937149083451713845015929093243025426876941405973284973216824503042048 2 (flS m f n (popY S p) (updW T j (FW.mk 1 of len E (popX S p) u)) ii).M j i),
 true = true,
 (1 : Nat) ≤ (1 : Nat),
 tabF tab = tabF tab ∧ plainSh (List.map kindOfV tab) = true ∨ ∀ (i : Nat), i < 1 → rowOb (List.map kindOfV tab) 0 (tabF tab i) (tabF tab i),
 (popY S p).st = (popY S p).st,
 (popY S p).L.c = (popY S p).L.c,
 (popY S p).L.k = (popY S p).L.k,
 (popY S p).L.a = (popY S p).L.a,
 (popY S p).L.f = (popY S p).L.f,
 (popY S p).L.w = (popY S p).L.w,
 (popY S p).L.i = (popY S p).L.i,
 (popY S p).L.d = (popY S p).L.d,
 ∀ (k : List Int), (popY S p).M k = (popY S p).M k,
 true = true,
 m ≤ m,
 f = f ∧ plainSh [CK.int IntKind.u8] = true ∨ ∀ (i : Nat), i < m → rowOb [CK.int IntKind.u8] 0 (f i) (f i),
 decide ((popX S p).ln = 0) = false,
 tabF tab = tabF tab,
 U64 S,
 Ln3 p.ln,
 R64 p.h,
 lrow 6703903964971298549787012499102923063739682910296196688861780721860882015036773488400937149083451713845015929093243025426876941405973284973216824503042048 2 (flS m f n S T ii).M j (0 + ((avInt (f (0 + ii) 0)).tmod 6).toNat) 1 = AV.ptr 901 0 0,
 (0 + ((avInt (f (0 + ii) 0)).tmod 6).toNat).blt 6 = true,
 lrow 6703903964971298549787012499102923063739682910296196688861780721860882015036773488400937149083451713845015929093243025426876941405973284973216824503042048 2 (flS m f n S T ii).M j (0 + ((avInt (f (0 + ii) 0)).tmod 6).toNat) 1 = AV.ptr 901 0 0,
 (0 + ((avInt (f (0 + ii) 0)).tmod 6).toNat).blt 6 = true,
 lrow 6703903964971298549787012499102923063739682910296196688861780721860882015036773488400937149083451713845015929093243025426876941405973284973216824503042048 2 (flS m f n S T ii).M j (0 + ((avInt (f (0 + ii) 0)).tmod 6).toNat) 1 = AV.ptr 901 0 0,
 (0 + ((avInt (f (0 + ii) 0)).tmod 6).toNat).blt 6 = true,
 (0 + ii).blt m = true,
 (ii.blt m && decide (0 ≤ Int.ofNat ii)) = true,
 (((avInt (f (0 + ii) 0)).tmod 6).toNat.blt 6 && decide (0 ≤ (avInt (f (0 + ii) 0)).tmod 6)) = true,
 (0 + ii).blt m = true,
 (ii.blt m && decide (0 ≤ Int.ofNat ii)) = true]) := by kernel_rfl
theorem fsC1_ex (m : Nat) (f : Nat → Nat → AV) (n : Nat) (S : MS) (T : Nat → FW) (ii j of len : Nat) (E : Nat → Int) (p : PO) (u : UO) (kk : Nat) (hii : ii < m) (hj : j < 6) (hr0 : 0 ≤ (avInt (f (0 + ii) 0)).tmod 6) (hjt : ((avInt (f (0 + ii) 0)).tmod 6).toNat = j) (hT : T j = ⟨1, of, len, E, p, u⟩) (hu : U64 S) (hpo : PoOk p) (hz : (popX S p).ln ≠ 0) : FEx Tryd.prog foF (foU m f n) foStep (flS m f n S T ii) .norm (flS m f n (popY S p) (updW T j ⟨1, of, len, E, popX S p, u⟩) ii) := by
  have hIX : (0 + ((avInt (f (0 + ii) 0)).tmod 6).toNat) = j := by rw [Nat.zero_add]; exact hjt
  have hii1 : (0 + ii).blt m = true := by rw [Nat.zero_add]; simpa [Nat.blt_eq] using hii
  have hii2 : (ii.blt m && decide (0 ≤ Int.ofNat ii)) = true := by rw [Bool.and_eq_true]; exact ⟨by simpa [Nat.blt_eq] using hii, decide_eq_true (by simp)⟩
  have hjb : (0 + ((avInt (f (0 + ii) 0)).tmod 6).toNat).blt 6 = true := by rw [hIX]; simpa [Nat.blt_eq] using hj
  have hjb2 : (((avInt (f (0 + ii) 0)).tmod 6).toNat.blt 6 && decide (0 ≤ (avInt (f (0 + ii) 0)).tmod 6)) = true := by rw [Bool.and_eq_true, hjt]; exact ⟨by simpa [Nat.blt_eq] using hj, decide_eq_true hr0⟩
  have hjt' : ((avInt (f ii 0)).tmod 6).toNat = j := by rw [← hjt, Nat.zero_add]
  have hz1 : decide ((popX S p).ln = 0) = false := decide_eq_false hz
  have po1 := hpo.l
  have po2 := hpo.h
  have q0 : (lrow fam0 2 (flS m f n S T ii).M j) (0 + ((avInt (f (0 + ii) 0)).tmod 6).toNat) 0 = AV.ss 1 900 of len none := by rw [hIX, lrow_j (mb := foMb ⟨1, of, len, E, p, u⟩) (by show foMb (T j) = _; rw [hT])]; rfl
  have q1 : (lrow fam0 2 (flS m f n S T ii).M j) (0 + ((avInt (f (0 + ii) 0)).tmod 6).toNat) 1 = AV.ptr 901 0 0 := by rw [hIX, lrow_j (mb := foMb ⟨1, of, len, E, p, u⟩) (by show foMb (T j) = _; rw [hT])]; rfl
  have q2 : (lrow fam0 2 (flS m f n S T ii).M j) (0 + ((avInt (f (0 + ii) 0)).tmod 6).toNat) 2 = AV.nilp := by rw [hIX, lrow_j (mb := foMb ⟨1, of, len, E, p, u⟩) (by show foMb (T j) = _; rw [hT])]; rfl
  have r0 : (lrow fam0 2 (flS m f n S T ii).M j) j 0 = AV.ss 1 900 of len none := by rw [lrow_j (mb := foMb ⟨1, of, len, E, p, u⟩) (by show foMb (T j) = _; rw [hT])]; rfl
  have r1 : (lrow fam0 2 (flS m f n S T ii).M j) j 1 = AV.ptr 901 0 0 := by rw [lrow_j (mb := foMb ⟨1, of, len, E, p, u⟩) (by show foMb (T j) = _; rw [hT])]; rfl
  have r2 : (lrow fam0 2 (flS m f n S T ii).M j) j 2 = AV.nilp := by rw [lrow_j (mb := foMb ⟨1, of, len, E, p, u⟩) (by show foMb (T j) = _; rw [hT])]; rfl
  have c0 : (lrow fam0 2 (flS m f n S T ii).M j) j 0 = AV.ss 1 900 of len none := by exact r0
  have c1 : (lrow fam0 2 (flS m f n S T ii).M j) j 1 = AV.ptr 901 0 0 := by exact r1
  have c2 : (lrow fam0 2 (flS m f n S T ii).M j) j 2 = AV.nilp := by exact r2
  have hrow : ∀ k0, k0 < 6 → rowV (CM.mk 6 fam0 [(900, Src.nm 900), (901, Src.nm 901)]) [.val, .val, .val] 0 ((lrow fam0 2 (flS m f n S T ii).M j) k0) (lrow fam0 2 (flS m f n (popY S p) (updW T j ⟨1, of, len, E, popX S p, u⟩) ii).M j k0) := fun k0 hk0 =>
    fam_rowsK (F := foF) (c := CM.mk 6 fam0 [(900, Src.nm 900), (901, Src.nm 901)]) (n' := 6) (Nat.le_refl _) (M := fun k => foMb (T k)) (M' := fun k => foMb (updW T j ⟨1, of, len, E, popX S p, u⟩ k)) (j := j) (src := (lrow fam0 2 (flS m f n S T ii).M j)) (fun i _ hi => ⟨foMb_ok _, by show foMb (if i = j then _ else T i) = _; rw [if_neg hi], fun cc => by exact lrow_ne hi⟩)
      (fun _ => by show rowV _ [.val, .val, .val] 0 _ (fun cc => mrow 2 900 (foMb (if j = j then _ else T j)) cc); rw [if_pos rfl]; exact ⟨valV_eq c0 (valV_ss rfl), valV_eq c1 (valV_ptr (n := 901) rfl), valV_eq c2 (valV_nilp), trivial⟩) k0 hk0
  refine fex_loc EFo_ok foFam foSOk j true true (mb := foMb ⟨1, of, len, E, p, u⟩) (mb' := foMb ⟨1, of, len, E, popX S p, u⟩) (fsC1_1 m f n S T ii j of len E p u kk) (cj ⟨rfl, rfl, rfl, rfl, rfl, rfl, rfl, rfl, rfl, rfl, rfl, Nat.le_refl _, .inl ⟨rfl, rfl⟩, rfl, rfl, rfl, rfl, rfl, rfl, Nat.le_refl _, hrow, rfl, Nat.le_refl _, .inl ⟨rfl, rfl⟩, rfl, rfl, rfl, rfl, rfl, rfl, rfl, rfl, (fun _ => rfl), rfl, Nat.le_refl _, .inl ⟨rfl, rfl⟩, (by with_reducible assumption), rfl, (by with_reducible assumption), (by with_reducible assumption), (by with_reducible assumption), q1, (by with_reducible assumption), q1, (by with_reducible assumption), q1, (by with_reducible assumption), (by with_reducible assumption), (by with_reducible assumption), (by with_reducible assumption), (by with_reducible assumption), (by with_reducible assumption), trivial⟩) flGood flGood (fun _ => hj) (by show foMb (T j) = _; rw [hT]) (by show foMb (if j = j then _ else _) = _; rw [if_pos rfl]) (.inl ⟨rfl, hj⟩) (fun k hk hne => ⟨hk, by show foMb (if k = j then _ else T k) = foMb (T k); rw [if_neg hne]⟩)
theorem fsC2_1 (m : Nat) (f : Nat → Nat → AV) (n : Nat) (S : MS) (T : Nat → FW) (ii j of len : Nat) (E : Nat → Int) (p : PO) (u : UO) (kk : Nat) : roundB EFo 3000 foStep (h0F foF (foU m f n)) [(900, Src.nm 1534417456194068081529839578374086068433079702073399944926047124579860843923385296429633457308282891124333932319449390318685066245762174435174278759376)] (locSt foF (flS m f n S T ii) true (foMb (FW.mk 1 of len E p u)) j []) [Hint.node [(15, [Hint.a (AV.ptr 901 0 0), Hint.a (AV.ptr 901 0 0), Hint.a (AV.ptr 901 0 0), Hint.b true, Hint.a (AV.ptr 901 0 0), Hint.b true, Hint.a (AV.ss 1 900 of len none)])]] (locSt foF (flS m f n (popY S p) (updW T j (FW.mk 0 0 (len + 1) (apE E of len (popX S p).sl) p u)) ii) true (foMb (FW.mk 0 0 (len + 1) (apE E of len (popX S p).sl) p u)) j []) =
 some (Ex.norm, [(0 : Nat) = 0,
 m = m,
 (none : Option Nat) = none,
 Int.ofNat n = Int.ofNat n,
 (0 : Nat) = 0,
 (0 : Nat) = 0,
 (0 : Nat) = 0,
 (6 : Nat) = 6,
 some 6 = some 6,
 Int.ofNat ii = Int.ofNat ii,
 false = false,
 0 + (len + 1) ≤ len + 1,
 (LF (apE E of len (popX S p).sl) = fun i j => if i < len then LF E (of + i) j else rowsOf 1 [AV.sym IntKind.i64 (popX S p).sl] (i - len) j) ∧ plainSh [CK.int IntKind.i64] = true ∨ ∀ (i : Nat), i < 0 + (len + 1) → rowOb [CK.int IntKind.i64] 0 (fun j => if i < len then LF E (of + i) j else rowsOf 1 [AV.sym IntKind.i64 (popX S p).sl] (i - len) j) (LF (apE E of len (popX S p).sl) i),
 false = false,
 (6 : Nat) ≤ (6 : Nat),
 ∀ (i : Nat), i < 6 → rowV (CM.mk 6 6703903964971298549787012499102923063739682910296196688861780721860882015036773488400937149083451713845015929093243025426876941405973284973216824503042048 [(900, Src.nm 1534417456194068081529839578374086068433079702073399944926047124579860843923385296429633457308282891124333932319449390318685066245762174435174278759376)]) foF.sh 0 (upd (upd (lrow 6703903964971298549787012499102923063739682910296196688861780721860882015036773488400937149083451713845015929093243025426876941405973284973216824503042048 2 (flS m f n S T ii).M j) (0 + ((avInt (f (0 + ii) 0)).tmod 6).toNat) 0 (AV.ss 1 1534417456194068081529839578374086068433079702073399944926047124579860843923385296429633457308282891124333932319449390318685066245762174435174278759376 0 (len + 1) none).cells) (0 + ((avInt (f (0 + ii) 0)).tmod 6).toNat) 1 (ofVal (Value.pointer none)).cells i) (lrow 6703903964971298549787012499102923063739682910296196688861780721860882015036773488400937149083451713845015929093243025426876941405973284973216824503042048 2 (flS m f n (popY S p) (updW T j (FW.mk 0 0 (len + 1) (apE E of len (popX S p).sl) p u)) ii).M j i),
 true = true,
 (1 : Nat) ≤ (1 : Nat),
 tabF tab = tabF tab ∧ plainSh (List.map kindOfV tab) = true ∨ ∀ (i : Nat), i < 1 → rowOb (List.map kindOfV tab) 0 (tabF tab i) (tabF tab i),
 (popY S p).st = (popY S p).st,
 (popY S p).L.c = (popY S p).L.c,
 (popY S p).L.k = (popY S p).L.k,
 (popY S p).L.a = (popY S p).L.a,
 (popY S p).L.f = (popY S p).L.f,
 (popY S p).L.w = (popY S p).L.w,
 (popY S p).L.i = (popY S p).L.i,
 (popY S p).L.d = (popY S p).L.d,
 ∀ (k : List Int), (popY S p).M k = (popY S p).M k,
 true = true,
 m ≤ m,
 f = f ∧ plainSh [CK.int IntKind.u8] = true ∨ ∀ (i : Nat), i < m → rowOb [CK.int IntKind.u8] 0 (f i) (f i),
 (0 + ((avInt (f (0 + ii) 0)).tmod 6).toNat).blt 6 = true,
 (0 + ((avInt (f (0 + ii) 0)).tmod 6).toNat).blt 6 = true,
 ((len + 1) * 8).ble 70368744177664 = true,
 (of + len).ble (of + len) = true,
 lrow 6703903964971298549787012499102923063739682910296196688861780721860882015036773488400937149083451713845015929093243025426876941405973284973216824503042048 2 (flS m f n S T ii).M j (0 + ((avInt (f (0 + ii) 0)).tmod 6).toNat) 0 = AV.ss 1 900 of len none,
 (0 + ((avInt (f (0 + ii) 0)).tmod 6).toNat).blt 6 = true,
 (popX S p).ok = true,
 lrow 6703903964971298549787012499102923063739682910296196688861780721860882015036773488400937149083451713845015929093243025426876941405973284973216824503042048 2 (flS m f n S T ii).M j (0 + ((avInt (f (0 + ii) 0)).tmod 6).toNat) 1 = AV.ptr 901 0 0,
 (0 + ((avInt (f (0 + ii) 0)).tmod 6).toNat).blt 6 = true,
 decide ((popX S p).ln = 0) = true,
 tabF tab = tabF tab,
 U64 S,
 Ln3 p.ln,
 R64 p.h,
 lrow 6703903964971298549787012499102923063739682910296196688861780721860882015036773488400937149083451713845015929093243025426876941405973284973216824503042048 2 (flS m f n S T ii).M j (0 + ((avInt (f (0 + ii) 0)).tmod 6).toNat) 1 = AV.ptr 901 0 0,
 (0 + ((avInt (f (0 + ii) 0)).tmod 6).toNat).blt 6 = true,
 lrow 6703903964971298549787012499102923063739682910296196688861780721860882015036773488400937149083451713845015929093243025426876941405973284973216824503042048 2 (flS m f n S T ii).M j (0 + ((avInt (f (0 + ii) 0)).tmod 6).toNat) 1 = AV.ptr 901 0 0,
 (0 + ((avInt (f (0 + ii) 0)).tmod 6).toNat).blt 6 = true,
 lrow 6703903964971298549787012499102923063739682910296196688861780721860882015036773488400937149083451713845015929093243025426876941405973284973216824503042048 2 (flS m f n S T ii).M j (0 + ((avInt (f (0 + ii) 0)).tmod 6).toNat) 1 = AV.ptr 901 0 0,
 (0 + ((avInt (f (0 + ii) 0)).tmod 6).toNat).blt 6 = true,
 (0 + ii).blt m = true,
 (ii.blt m && decide (0 ≤ Int.ofNat ii)) = true,
 (((avInt (f (0 + ii) 0)).tmod 6).toNat.blt 6 && decide (0 ≤ (avInt (f (0 + ii) 0)).tmod 6)) = true,
 (0 + ii).blt m = true,
 (ii.blt m && decide (0 ≤ Int.ofNat ii)) = true]) := by kernel_rfl
theorem fsC2_ex (m : Nat) (f : Nat → Nat → AV) (n : Nat) (S : MS) (T : Nat → FW) (ii j of len : Nat) (E : Nat → Int) (p : PO) (u : UO) (kk : Nat) (hii : ii < m) (hj : j < 6) (hr0 : 0 ≤ (avInt (f (0 + ii) 0)).tmod 6) (hjt : ((avInt (f (0 + ii) 0)).tmod 6).toNat = j) (hT : T j = ⟨1, of, len, E, p, u⟩) (hu : U64 S) (hpo : PoOk p) (hz : (popX S p).ln = 0) (hk : (popX S p).ok = true) (hle : len ≤ 1000000) : FEx Tryd.prog foF (foU m f n) foStep (flS m f n S T ii) .norm (flS m f n (popY S p) (updW T j ⟨0, 0, len + 1, apE E of len (popX S p).sl, p, u⟩) ii) := by
  have hIX : (0 + ((avInt (f (0 + ii) 0)).tmod 6).toNat) = j := by rw [Nat.zero_add]; exact hjt
  have hii1 : (0 + ii).blt m = true := by rw [Nat.zero_add]; simpa [Nat.blt_eq] using hii
  have hii2 : (ii.blt m && decide (0 ≤ Int.ofNat ii)) = true := by rw [Bool.and_eq_true]; exact ⟨by simpa [Nat.blt_eq] using hii, decide_eq_true (by simp)⟩
  have hjb : (0 + ((avInt (f (0 + ii) 0)).tmod 6).toNat).blt 6 = true := by rw [hIX]; simpa [Nat.blt_eq] using hj
  have hjb2 : (((avInt (f (0 + ii) 0)).tmod 6).toNat.blt 6 && decide (0 ≤ (avInt (f (0 + ii) 0)).tmod 6)) = true := by rw [Bool.and_eq_true, hjt]; exact ⟨by simpa [Nat.blt_eq] using hj, decide_eq_true hr0⟩
  have hjt' : ((avInt (f ii 0)).tmod 6).toNat = j := by rw [← hjt, Nat.zero_add]
  have hz1 : decide ((popX S p).ln = 0) = true := decide_eq_true hz
  have po1 := hpo.l
  have po2 := hpo.h
  have hrows := ap_rows (E := E) (of := of) (len := len) (s := (popX S p).sl)
  have q0 : (lrow fam0 2 (flS m f n S T ii).M j) (0 + ((avInt (f (0 + ii) 0)).tmod 6).toNat) 0 = AV.ss 1 900 of len none := by rw [hIX, lrow_j (mb := foMb ⟨1, of, len, E, p, u⟩) (by show foMb (T j) = _; rw [hT])]; rfl
  have q1 : (lrow fam0 2 (flS m f n S T ii).M j) (0 + ((avInt (f (0 + ii) 0)).tmod 6).toNat) 1 = AV.ptr 901 0 0 := by rw [hIX, lrow_j (mb := foMb ⟨1, of, len, E, p, u⟩) (by show foMb (T j) = _; rw [hT])]; rfl
  have q2 : (lrow fam0 2 (flS m f n S T ii).M j) (0 + ((avInt (f (0 + ii) 0)).tmod 6).toNat) 2 = AV.nilp := by rw [hIX, lrow_j (mb := foMb ⟨1, of, len, E, p, u⟩) (by show foMb (T j) = _; rw [hT])]; rfl
  have r0 : (lrow fam0 2 (flS m f n S T ii).M j) j 0 = AV.ss 1 900 of len none := by rw [lrow_j (mb := foMb ⟨1, of, len, E, p, u⟩) (by show foMb (T j) = _; rw [hT])]; rfl
  have r1 : (lrow fam0 2 (flS m f n S T ii).M j) j 1 = AV.ptr 901 0 0 := by rw [lrow_j (mb := foMb ⟨1, of, len, E, p, u⟩) (by show foMb (T j) = _; rw [hT])]; rfl
  have r2 : (lrow fam0 2 (flS m f n S T ii).M j) j 2 = AV.nilp := by rw [lrow_j (mb := foMb ⟨1, of, len, E, p, u⟩) (by show foMb (T j) = _; rw [hT])]; rfl
  have c0 : (upd (upd (lrow fam0 2 (flS m f n S T ii).M j) (0 + ((avInt (f (0 + ii) 0)).tmod 6).toNat) 0 [.ss 1 1534417456194068081529839578374086068433079702073399944926047124579860843923385296429633457308282891124333932319449390318685066245762174435174278759376 0 (len + 1) none]) (0 + ((avInt (f (0 + ii) 0)).tmod 6).toNat) 1 [.nilp]) j 0 = AV.ss 1 1534417456194068081529839578374086068433079702073399944926047124579860843923385296429633457308282891124333932319449390318685066245762174435174278759376 0 (len + 1) none := by simp [upd, nth, hjt']
  have c1 : (upd (upd (lrow fam0 2 (flS m f n S T ii).M j) (0 + ((avInt (f (0 + ii) 0)).tmod 6).toNat) 0 [.ss 1 1534417456194068081529839578374086068433079702073399944926047124579860843923385296429633457308282891124333932319449390318685066245762174435174278759376 0 (len + 1) none]) (0 + ((avInt (f (0 + ii) 0)).tmod 6).toNat) 1 [.nilp]) j 1 = AV.nilp := by simp [upd, nth, hjt']
  have c2 : (upd (upd (lrow fam0 2 (flS m f n S T ii).M j) (0 + ((avInt (f (0 + ii) 0)).tmod 6).toNat) 0 [.ss 1 1534417456194068081529839578374086068433079702073399944926047124579860843923385296429633457308282891124333932319449390318685066245762174435174278759376 0 (len + 1) none]) (0 + ((avInt (f (0 + ii) 0)).tmod 6).toNat) 1 [.nilp]) j 2 = AV.nilp := by simp [upd, nth, hjt', r2]
  have hrow : ∀ k0, k0 < 6 → rowV (CM.mk 6 fam0 [(900, Src.nm 1534417456194068081529839578374086068433079702073399944926047124579860843923385296429633457308282891124333932319449390318685066245762174435174278759376)]) [.val, .val, .val] 0 ((upd (upd (lrow fam0 2 (flS m f n S T ii).M j) (0 + ((avInt (f (0 + ii) 0)).tmod 6).toNat) 0 [.ss 1 1534417456194068081529839578374086068433079702073399944926047124579860843923385296429633457308282891124333932319449390318685066245762174435174278759376 0 (len + 1) none]) (0 + ((avInt (f (0 + ii) 0)).tmod 6).toNat) 1 [.nilp]) k0) (lrow fam0 2 (flS m f n (popY S p) (updW T j ⟨0, 0, len + 1, apE E of len (popX S p).sl, p, u⟩) ii).M j k0) := fun k0 hk0 =>
    fam_rowsK (F := foF) (c := CM.mk 6 fam0 [(900, Src.nm 1534417456194068081529839578374086068433079702073399944926047124579860843923385296429633457308282891124333932319449390318685066245762174435174278759376)]) (n' := 6) (Nat.le_refl _) (M := fun k => foMb (T k)) (M' := fun k => foMb (updW T j ⟨0, 0, len + 1, apE E of len (popX S p).sl, p, u⟩ k)) (j := j) (src := (upd (upd (lrow fam0 2 (flS m f n S T ii).M j) (0 + ((avInt (f (0 + ii) 0)).tmod 6).toNat) 0 [.ss 1 1534417456194068081529839578374086068433079702073399944926047124579860843923385296429633457308282891124333932319449390318685066245762174435174278759376 0 (len + 1) none]) (0 + ((avInt (f (0 + ii) 0)).tmod 6).toNat) 1 [.nilp])) (fun i _ hi => ⟨foMb_ok _, by show foMb (if i = j then _ else T i) = _; rw [if_neg hi], fun cc => by simp [upd, hjt', hi]; exact lrow_ne hi⟩)
      (fun _ => by show rowV _ [.val, .val, .val] 0 _ (fun cc => mrow 2 900 (foMb (if j = j then _ else T j)) cc); rw [if_pos rfl]; exact ⟨valV_eq c0 (valV_ss rfl), valV_eq c1 (valV_nilp), valV_eq c2 (valV_nilp), trivial⟩) k0 hk0
  refine fex_loc EFo_ok foFam foSOk j true true (mb := foMb ⟨1, of, len, E, p, u⟩) (mb' := foMb ⟨0, 0, len + 1, apE E of len (popX S p).sl, p, u⟩) (fsC2_1 m f n S T ii j of len E p u kk) (cj ⟨rfl, rfl, rfl, rfl, rfl, rfl, rfl, rfl, rfl, rfl, rfl, (by (simp [upd, nth, q0, q1, q2]; done)), .inr hrows, rfl, Nat.le_refl _, hrow, rfl, Nat.le_refl _, .inl ⟨rfl, rfl⟩, rfl, rfl, rfl, rfl, rfl, rfl, rfl, rfl, (fun _ => rfl), rfl, Nat.le_refl _, .inl ⟨rfl, rfl⟩, (by with_reducible assumption), (by with_reducible assumption), (by (simp; omega)), (by (simp [upd, nth, q0, q1, q2]; done)), q0, (by with_reducible assumption), (by with_reducible assumption), q1, (by with_reducible assumption), (by with_reducible assumption), rfl, (by with_reducible assumption), (by with_reducible assumption), (by with_reducible assumption), q1, (by with_reducible assumption), q1, (by with_reducible assumption), q1, (by with_reducible assumption), (by with_reducible assumption), (by with_reducible assumption), (by with_reducible assumption), (by with_reducible assumption), (by with_reducible assumption), trivial⟩) flGood flGood (fun _ => hj) (by show foMb (T j) = _; rw [hT]) (by show foMb (if j = j then _ else _) = _; rw [if_pos rfl]) (.inl ⟨rfl, hj⟩) (fun k hk hne => ⟨hk, by show foMb (if k = j then _ else T k) = foMb (T k); rw [if_neg hne]⟩)
theorem fsC3_1 (m : Nat) (f : Nat → Nat → AV) (n : Nat) (S : MS) (T : Nat → FW) (ii j of len : Nat) (E : Nat → Int) (p : PO) (u : UO) (kk : Nat) : roundB EFo 3000 foStep (h0F foF (foU m f n)) [(900, Src.nm 900)] (locSt foF (flS m f n S T ii) true (foMb (FW.mk 1 of len E p u)) j []) [Hint.node [(15, [Hint.a (AV.ptr 901 0 0), Hint.a (AV.ptr 901 0 0), Hint.a (AV.ptr 901 0 0), Hint.b true, Hint.a (AV.ptr 901 0 0), Hint.b false])]] (locSt foF (flS m f n (popY S p) (updW T j (FW.mk 0 of len E p u)) ii) true (foMb (FW.mk 0 of len E p u)) j []) =
 some (Ex.norm, [(0 : Nat) = 0,
 m = m,
 (none : Option Nat) = none,
 Int.ofNat n = Int.ofNat n,
 (0 : Nat) = 0,
 (0 : Nat) = 0,
 (0 : Nat) = 0,
 (6 : Nat) = 6,
 some 6 = some 6,
 Int.ofNat ii = Int.ofNat ii,
 false = false,
 of + len ≤ of + len,
 LF E = LF E ∧ plainSh [CK.int IntKind.i64] = true ∨ ∀ (i : Nat), i < of + len → rowOb [CK.int IntKind.i64] 0 (LF E i) (LF E i),
 false = false,
 (6 : Nat) ≤ (6 : Nat),
 ∀ (i : Nat), i < 6 → rowV (CM.mk 6 6703903964971298549787012499102923063739682910296196688861780721860882015036773488400937149083451713845015929093243025426876941405973284973216824503042048 [(900, Src.nm 900)]) foF.sh 0 (upd (lrow 6703903964971298549787012499102923063739682910296196688861780721860882015036773488400937149083451713845015929093243025426876941405973284973216824503042048 2 (flS m f n S T ii).M j) (0 + ((avInt (f (0 + ii) 0)).tmod 6).toNat) 1 (ofVal (Value.pointer none)).cells i) (lrow 6703903964971298549787012499102923063739682910296196688861780721860882015036773488400937149083451713845015929093243025426876941405973284973216824503042048 2 (flS m f n (popY S p) (updW T j (FW.mk 0 of len E p u)) ii).M j i),
 true = true,
 (1 : Nat) ≤ (1 : Nat),
 tabF tab = tabF tab ∧ plainSh (List.map kindOfV tab) = true ∨ ∀ (i : Nat), i < 1 → rowOb (List.map kindOfV tab) 0 (tabF tab i) (tabF tab i),
 (popY S p).st = (popY S p).st,
 (popY S p).L.c = (popY S p).L.c,
 (popY S p).L.k = (popY S p).L.k,
 (popY S p).L.a = (popY S p).L.a,
 (popY S p).L.f = (popY S p).L.f,
 (popY S p).L.w = (popY S p).L.w,
 (popY S p).L.i = (popY S p).L.i,
 (popY S p).L.d = (popY S p).L.d,
 ∀ (k : List Int), (popY S p).M k = (popY S p).M k,
 true = true,
 m ≤ m,
 f = f ∧ plainSh [CK.int IntKind.u8] = true ∨ ∀ (i : Nat), i < m → rowOb [CK.int IntKind.u8] 0 (f i) (f i),
 (0 + ((avInt (f (0 + ii) 0)).tmod 6).toNat).blt 6 = true,
 (popX S p).ok = false,
 lrow 6703903964971298549787012499102923063739682910296196688861780721860882015036773488400937149083451713845015929093243025426876941405973284973216824503042048 2 (flS m f n S T ii).M j (0 + ((avInt (f (0 + ii) 0)).tmod 6).toNat) 1 = AV.ptr 901 0 0,
 (0 + ((avInt (f (0 + ii) 0)).tmod 6).toNat).blt 6 = true,
 decide ((popX S p).ln = 0) = true,
 tabF tab = tabF tab,
 U64 S,
 Ln3 p.ln,
 R64 p.h,
 lrow 6703903964971298549787012499102923063739682910296196688861780721860882015036773488400937149083451713845015929093243025426876941405973284973216824503042048 2 (flS m f n S T ii).M j (0 + ((avInt (f (0 + ii) 0)).tmod 6).toNat) 1 = AV.ptr 901 0 0,
 (0 + ((avInt (f (0 + ii) 0)).tmod 6).toNat).blt 6 = true,
 lrow 6703903964971298549787012499102923063739682910296196688861780721860882015036773488400937149083451713845015929093243025426876941405973284973216824503042048 2 (flS m f n S T ii).M j (0 + ((avInt (f (0 + ii) 0)).tmod 6).toNat) 1 = AV.ptr 901 0 0,
 (0 + ((avInt (f (0 + ii) 0)).tmod 6).toNat).blt 6 = true,
 lrow 6703903964971298549787012499102923063739682910296196688861780721860882015036773488400937149083451713845015929093243025426876941405973284973216824503042048 2 (flS m f n S T ii).M j (0 + ((avInt (f (0 + ii) 0)).tmod 6).toNat) 1 = AV.ptr 901 0 0,
 (0 + ((avInt (f (0 + ii) 0)).tmod 6).toNat).blt 6 = true,
 (0 + ii).blt m = true,
 (ii.blt m && decide (0 ≤ Int.ofNat ii)) = true,
 (((avInt (f (0 + ii) 0)).tmod 6).toNat.blt 6 && decide (0 ≤ (avInt (f (0 + ii) 0)).tmod 6)) = true,
 (0 + ii).blt m = true,
 (ii.blt m && decide (0 ≤ Int.ofNat ii)) = true]) := by kernel_rfl
theorem fsC3_ex (m : Nat) (f : Nat → Nat → AV) (n : Nat) (S : MS) (T : Nat → FW) (ii j of len : Nat) (E : Nat → Int) (p : PO) (u : UO) (kk : Nat) (hii : ii < m) (hj : j < 6) (hr0 : 0 ≤ (avInt (f (0 + ii) 0)).tmod 6) (hjt : ((avInt (f (0 + ii) 0)).tmod 6).toNat = j) (hT : T j = ⟨1, of, len, E, p, u⟩) (hu : U64 S) (hpo : PoOk p) (hz : (popX S p).ln = 0) (hk : (popX S p).ok = false) : FEx Tryd.prog foF (foU m f n) foStep (flS m f n S T ii) .norm (flS m f n (popY S p) (updW T j ⟨0, of, len, E, p, u⟩) ii) := by
  have hIX : (0 + ((avInt (f (0 + ii) 0)).tmod 6).toNat) = j := by rw [Nat.zero_add]; exact hjt
  have hii1 : (0 + ii).blt m = true := by rw [Nat.zero_add]; simpa [Nat.blt_eq] using hii
  have hii2 : (ii.blt m && decide (0 ≤ Int.ofNat ii)) = true := by rw [Bool.and_eq_true]; exact ⟨by simpa [Nat.blt_eq] using hii, decide_eq_true (by simp)⟩
  have hjb : (0 + ((avInt (f (0 + ii) 0)).tmod 6).toNat).blt 6 = true := by rw [hIX]; simpa [Nat.blt_eq] using hj
  have hjb2 : (((avInt (f (0 + ii) 0)).tmod 6).toNat.blt 6 && decide (0 ≤ (avInt (f (0 + ii) 0)).tmod 6)) = true := by rw [Bool.and_eq_true, hjt]; exact ⟨by simpa [Nat.blt_eq] using hj, decide_eq_true hr0⟩
  have hjt' : ((avInt (f ii 0)).tmod 6).toNat = j := by rw [← hjt, Nat.zero_add]
  have hz1 : decide ((popX S p).ln = 0) = true := decide_eq_true hz
  have po1 := hpo.l
  have po2 := hpo.h
  have q0 : (lrow fam0 2 (flS m f n S T ii).M j) (0 + ((avInt (f (0 + ii) 0)).tmod 6).toNat) 0 = AV.ss 1 900 of len none := by rw [hIX, lrow_j (mb := foMb ⟨1, of, len, E, p, u⟩) (by show foMb (T j) = _; rw [hT])]; rfl
  have q1 : (lrow fam0 2 (flS m f n S T ii).M j) (0 + ((avInt (f (0 + ii) 0)).tmod 6).toNat) 1 = AV.ptr 901 0 0 := by rw [hIX, lrow_j (mb := foMb ⟨1, of, len, E, p, u⟩) (by show foMb (T j) = _; rw [hT])]; rfl
  have q2 : (lrow fam0 2 (flS m f n S T ii).M j) (0 + ((avInt (f (0 + ii) 0)).tmod 6).toNat) 2 = AV.nilp := by rw [hIX, lrow_j (mb := foMb ⟨1, of, len, E, p, u⟩) (by show foMb (T j) = _; rw [hT])]; rfl
  have r0 : (lrow fam0 2 (flS m f n S T ii).M j) j 0 = AV.ss 1 900 of len none := by rw [lrow_j (mb := foMb ⟨1, of, len, E, p, u⟩) (by show foMb (T j) = _; rw [hT])]; rfl
  have r1 : (lrow fam0 2 (flS m f n S T ii).M j) j 1 = AV.ptr 901 0 0 := by rw [lrow_j (mb := foMb ⟨1, of, len, E, p, u⟩) (by show foMb (T j) = _; rw [hT])]; rfl
  have r2 : (lrow fam0 2 (flS m f n S T ii).M j) j 2 = AV.nilp := by rw [lrow_j (mb := foMb ⟨1, of, len, E, p, u⟩) (by show foMb (T j) = _; rw [hT])]; rfl
  have c0 : (upd (lrow fam0 2 (flS m f n S T ii).M j) (0 + ((avInt (f (0 + ii) 0)).tmod 6).toNat) 1 [.nilp]) j 0 = AV.ss 1 900 of len none := by simp [upd, nth, hjt', r0]
  have c1 : (upd (lrow fam0 2 (flS m f n S T ii).M j) (0 + ((avInt (f (0 + ii) 0)).tmod 6).toNat) 1 [.nilp]) j 1 = AV.nilp := by simp [upd, nth, hjt']
  have c2 : (upd (lrow fam0 2 (flS m f n S T ii).M j) (0 + ((avInt (f (0 + ii) 0)).tmod 6).toNat) 1 [.nilp]) j 2 = AV.nilp := by simp [upd, nth, hjt', r2]
  have hrow : ∀ k0, k0 < 6 → rowV (CM.mk 6 fam0 [(900, Src.nm 900)]) [.val, .val, .val] 0 ((upd (lrow fam0 2 (flS m f n S T ii).M j) (0 + ((avInt (f (0 + ii) 0)).tmod 6).toNat) 1 [.nilp]) k0) (lrow fam0 2 (flS m f n (popY S p) (updW T j ⟨0, of, len, E, p, u⟩) ii).M j k0) := fun k0 hk0 =>
    fam_rowsK (F := foF) (c := CM.mk 6 fam0 [(900, Src.nm 900)]) (n' := 6) (Nat.le_refl _) (M := fun k => foMb (T k)) (M' := fun k => foMb (updW T j ⟨0, of, len, E, p, u⟩ k)) (j := j) (src := (upd (lrow fam0 2 (flS m f n S T ii).M j) (0 + ((avInt (f (0 + ii) 0)).tmod 6).toNat) 1 [.nilp])) (fun i _ hi => ⟨foMb_ok _, by show foMb (if i = j then _ else T i) = _; rw [if_neg hi], fun cc => by simp [upd, hjt', hi]; exact lrow_ne hi⟩)
      (fun _ => by show rowV _ [.val, .val, .val] 0 _ (fun cc => mrow 2 900 (foMb (if j = j then _ else T j)) cc); rw [if_pos rfl]; exact ⟨valV_eq c0 (valV_ss rfl), valV_eq c1 (valV_nilp), valV_eq c2 (valV_nilp), trivial⟩) k0 hk0
  refine fex_loc EFo_ok foFam foSOk j true true (mb := foMb ⟨1, of, len, E, p, u⟩) (mb' := foMb ⟨0, of, len, E, p, u⟩) (fsC3_1 m f n S T ii j of len E p u kk) (cj ⟨rfl, rfl, rfl, rfl, rfl, rfl, rfl, rfl, rfl, rfl, rfl, Nat.le_refl _, .inl ⟨rfl, rfl⟩, rfl, Nat.le_refl _, hrow, rfl, Nat.le_refl _, .inl ⟨rfl, rfl⟩, rfl, rfl, rfl, rfl, rfl, rfl, rfl, rfl, (fun _ => rfl), rfl, Nat.le_refl _, .inl ⟨rfl, rfl⟩, (by with_reducible assumption), (by with_reducible assumption), q1, (by with_reducible assumption), (by with_reducible assumption), rfl, (by with_reducible assumption), (by with_reducible assumption), (by with_reducible assumption), q1, (by with_reducible assumption), q1, (by with_reducible assumption), q1, (by with_reducible assumption), (by with_reducible assumption), (by with_reducible assumption), (by with_reducible assumption), (by with_reducible assumption), (by with_reducible assumption), trivial⟩) flGood flGood (fun _ => hj) (by show foMb (T j) = _; rw [hT]) (by show foMb (if j = j then _ else _) = _; rw [if_pos rfl]) (.inl ⟨rfl, hj⟩) (fun k hk hne => ⟨hk, by show foMb (if k = j then _ else T k) = foMb (T k); rw [if_neg hne]⟩)
theorem fsD1_1 (m : Nat) (f : Nat → Nat → AV) (n : Nat) (S : MS) (T : Nat → FW) (ii j of len : Nat) (E : Nat → Int) (p : PO) (u : UO) (kk : Nat) : roundB EFo 3000 foStep (h0F foF (foU m f n)) [(900, Src.nm 900), (901, Src.nm 901)] (locSt foF (flS m f n S T ii) true (foMb (FW.mk 2 of len E p u)) j []) [Hint.node [(15, [Hint.a AV.nilp, Hint.a (AV.ptr 901 0 0), Hint.a AV.nilp, Hint.a (AV.ptr 901 0 0), Hint.b false])]] (locSt foF (flS m f n (pshY S u) (updW T j (FW.mk 2 of len E p (pshX S u))) ii) true (foMb (FW.mk 2 of len E p (pshX S u))) j []) =
 some (Ex.norm, [(0 : Nat) = 0,
 m = m,
 (none : Option Nat) = none,
 Int.ofNat n = Int.ofNat n,
 (0 : Nat) = 0,
 (0 : Nat) = 0,
 (0 : Nat) = 0,
 (6 : Nat) = 6,
 some 6 = some 6,
 Int.ofNat ii = Int.ofNat ii,
 false = false,
 of + len ≤ of + len,
 LF E = LF E ∧ plainSh [CK.int IntKind.i64] = true ∨ ∀ (i : Nat), i < of + len → rowOb [CK.int IntKind.i64] 0 (LF E i) (LF E i),
 (pshX S u).ln = (pshX S u).ln,
 (pshX S u).h = (pshX S u).h,
 (pshX S u).sl = (pshX S u).sl,
 false = false,
 (6 : Nat) ≤ (6 : Nat),
 ∀ (i : Nat), i < 6 → rowV (CM.mk 6 6703903964971298549787012499102923063739682910296196688861780721860882015036773488400937149083451713845015929093243025426876941405973284973216824503042048 [(900, Src.nm 900), (901, Src.nm 901)]) foF.sh 0 (lrow 6703903964971298549787012499102923063739682910296196688861780721860882015036773488400937149083451713845015929093243025426876941405973284973216824503042048 2 (flS m f n S T ii).M j i) (lrow 6703903964971298549787012499102923063739682910296196688861780721860882015036773488400937149083451713845015929093243025426876941405973284973216824503042048 2 (flS m f n (pshY S u) (updW T j (FW.mk 2 of len E p (pshX S u))) ii).M j i),
 true = true,
 (1 : Nat) ≤ (1 : Nat),
 tabF tab = tabF tab ∧ plainSh (List.map kindOfV tab) = true ∨ ∀ (i : Nat), i < 1 → rowOb (List.map kindOfV tab) 0 (tabF tab i) (tabF tab i),
 (pshY S u).st = (pshY S u).st,
 (pshY S u).L.c = (pshY S u).L.c,
 (pshY S u).L.k = (pshY S u).L.k,
 (pshY S u).L.a = (pshY S u).L.a,
 (pshY S u).L.f = (pshY S u).L.f,
 (pshY S u).L.w = (pshY S u).L.w,
 (pshY S u).L.i = (pshY S u).L.i,
 (pshY S u).L.d = (pshY S u).L.d,
 ∀ (k : List Int), (pshY S u).M k = (pshY S u).M k,
 true = true,
 m ≤ m,
 f = f ∧ plainSh [CK.int IntKind.u8] = true ∨ ∀ (i : Nat), i < m → rowOb [CK.int IntKind.u8] 0 (f i) (f i),
 decide ((pshX S u).ln = 0) = false,
 tabF tab = tabF tab,
 U64 S,
 Ln3 u.ln,
 R64 u.h,
 lrow 6703903964971298549787012499102923063739682910296196688861780721860882015036773488400937149083451713845015929093243025426876941405973284973216824503042048 2 (flS m f n S T ii).M j (0 + ((avInt (f (0 + ii) 0)).tmod 6).toNat) 2 = AV.ptr 901 0 0,
 (0 + ((avInt (f (0 + ii) 0)).tmod 6).toNat).blt 6 = true,
 lrow 6703903964971298549787012499102923063739682910296196688861780721860882015036773488400937149083451713845015929093243025426876941405973284973216824503042048 2 (flS m f n S T ii).M j (0 + ((avInt (f (0 + ii) 0)).tmod 6).toNat) 1 = AV.nilp,
 (0 + ((avInt (f (0 + ii) 0)).tmod 6).toNat).blt 6 = true,
 lrow 6703903964971298549787012499102923063739682910296196688861780721860882015036773488400937149083451713845015929093243025426876941405973284973216824503042048 2 (flS m f n S T ii).M j (0 + ((avInt (f (0 + ii) 0)).tmod 6).toNat) 2 = AV.ptr 901 0 0,
 (0 + ((avInt (f (0 + ii) 0)).tmod 6).toNat).blt 6 = true,
 lrow 6703903964971298549787012499102923063739682910296196688861780721860882015036773488400937149083451713845015929093243025426876941405973284973216824503042048 2 (flS m f n S T ii).M j (0 + ((avInt (f (0 + ii) 0)).tmod 6).toNat) 1 = AV.nilp,
 (0 + ((avInt (f (0 + ii) 0)).tmod 6).toNat).blt 6 = true,
 (0 + ii).blt m = true,
 (ii.blt m && decide (0 ≤ Int.ofNat ii)) = true,
 (((avInt (f (0 + ii) 0)).tmod 6).toNat.blt 6 && decide (0 ≤ (avInt (f (0 + ii) 0)).tmod 6)) = true,
 (0 + ii).blt m = true,
 (ii.blt m && decide (0 ≤ Int.ofNat ii)) = true]) := by kernel_rfl
theorem fsD1_ex (m : Nat) (f : Nat → Nat → AV) (n : Nat) (S : MS) (T : Nat → FW) (ii j of len : Nat) (E : Nat → Int) (p : PO) (u : UO) (kk : Nat) (hii : ii < m) (hj : j < 6) (hr0 : 0 ≤ (avInt (f (0 + ii) 0)).tmod 6) (hjt : ((avInt (f (0 + ii) 0)).tmod 6).toNat = j) (hT : T j = ⟨2, of, len, E, p, u⟩) (hu : U64 S) (huo : UoOk u) (hz : (pshX S u).ln ≠ 0) : FEx Tryd.prog foF (foU m f n) foStep (flS m f n S T ii) .norm (flS m f n (pshY S u) (updW T j ⟨2, of, len, E, p, pshX S u⟩) ii) := by
  have hIX : (0 + ((avInt (f (0 + ii) 0)).tmod 6).toNat) = j := by rw [Nat.zero_add]; exact hjt
  have hii1 : (0 + ii).blt m = true := by rw [Nat.zero_add]; simpa [Nat.blt_eq] using hii
  have hii2 : (ii.blt m && decide (0 ≤ Int.ofNat ii)) = true := by rw [Bool.and_eq_true]; exact ⟨by simpa [Nat.blt_eq] using hii, decide_eq_true (by simp)⟩
  have hjb : (0 + ((avInt (f (0 + ii) 0)).tmod 6).toNat).blt 6 = true := by rw [hIX]; simpa [Nat.blt_eq] using hj
  have hjb2 : (((avInt (f (0 + ii) 0)).tmod 6).toNat.blt 6 && decide (0 ≤ (avInt (f (0 + ii) 0)).tmod 6)) = true := by rw [Bool.and_eq_true, hjt]; exact ⟨by simpa [Nat.blt_eq] using hj, decide_eq_true hr0⟩
  have hjt' : ((avInt (f ii 0)).tmod 6).toNat = j := by rw [← hjt, Nat.zero_add]
  have hz1 : decide ((pshX S u).ln = 0) = false := decide_eq_false hz
  have po1 := huo.l
  have po2 := huo.h
  have q0 : (lrow fam0 2 (flS m f n S T ii).M j) (0 + ((avInt (f (0 + ii) 0)).tmod 6).toNat) 0 = AV.ss 1 900 of len none := by rw [hIX, lrow_j (mb := foMb ⟨2, of, len, E, p, u⟩) (by show foMb (T j) = _; rw [hT])]; rfl
  have q1 : (lrow fam0 2 (flS m f n S T ii).M j) (0 + ((avInt (f (0 + ii) 0)).tmod 6).toNat) 1 = AV.nilp := by rw [hIX, lrow_j (mb := foMb ⟨2, of, len, E, p, u⟩) (by show foMb (T j) = _; rw [hT])]; rfl
  have q2 : (lrow fam0 2 (flS m f n S T ii).M j) (0 + ((avInt (f (0 + ii) 0)).tmod 6).toNat) 2 = AV.ptr 901 0 0 := by rw [hIX, lrow_j (mb := foMb ⟨2, of, len, E, p, u⟩) (by show foMb (T j) = _; rw [hT])]; rfl
  have r0 : (lrow fam0 2 (flS m f n S T ii).M j) j 0 = AV.ss 1 900 of len none := by rw [lrow_j (mb := foMb ⟨2, of, len, E, p, u⟩) (by show foMb (T j) = _; rw [hT])]; rfl
  have r1 : (lrow fam0 2 (flS m f n S T ii).M j) j 1 = AV.nilp := by rw [lrow_j (mb := foMb ⟨2, of, len, E, p, u⟩) (by show foMb (T j) = _; rw [hT])]; rfl
  have r2 : (lrow fam0 2 (flS m f n S T ii).M j) j 2 = AV.ptr 901 0 0 := by rw [lrow_j (mb := foMb ⟨2, of, len, E, p, u⟩) (by show foMb (T j) = _; rw [hT])]; rfl
  have c0 : (lrow fam0 2 (flS m f n S T ii).M j) j 0 = AV.ss 1 900 of len none := by exact r0
  have c1 : (lrow fam0 2 (flS m f n S T ii).M j) j 1 = AV.nilp := by exact r1
  have c2 : (lrow fam0 2 (flS m f n S T ii).M j) j 2 = AV.ptr 901 0 0 := by exact r2
  have hrow : ∀ k0, k0 < 6 → rowV (CM.mk 6 fam0 [(900, Src.nm 900), (901, Src.nm 901)]) [.val, .val, .val] 0 ((lrow fam0 2 (flS m f n S T ii).M j) k0) (lrow fam0 2 (flS m f n (pshY S u) (updW T j ⟨2, of, len, E, p, pshX S u⟩) ii).M j k0) := fun k0 hk0 =>
    fam_rowsK (F := foF) (c := CM.mk 6 fam0 [(900, Src.nm 900), (901, Src.nm 901)]) (n' := 6) (Nat.le_refl _) (M := fun k => foMb (T k)) (M' := fun k => foMb (updW T j ⟨2, of, len, E, p, pshX S u⟩ k)) (j := j) (src := (lrow fam0 2 (flS m f n S T ii).M j)) (fun i _ hi => ⟨foMb_ok _, by show foMb (if i = j then _ else T i) = _; rw [if_neg hi], fun cc => by exact lrow_ne hi⟩)
      (fun _ => by show rowV _ [.val, .val, .val] 0 _ (fun cc => mrow 2 900 (foMb (if j = j then _ else T j)) cc); rw [if_pos rfl]; exact ⟨valV_eq c0 (valV_ss rfl), valV_eq c1 (valV_nilp), valV_eq c2 (valV_ptr (n := 901) rfl), trivial⟩) k0 hk0
  refine fex_loc EFo_ok foFam foSOk j true true (mb := foMb ⟨2, of, len, E, p, u⟩) (mb' := foMb ⟨2, of, len, E, p, pshX S u⟩) (fsD1_1 m f n S T ii j of len E p u kk) (cj ⟨rfl, rfl, rfl, rfl, rfl, rfl, rfl, rfl, rfl, rfl, rfl, Nat.le_refl _, .inl ⟨rfl, rfl⟩, rfl, rfl, rfl, rfl, Nat.le_refl _, hrow, rfl, Nat.le_refl _, .inl ⟨rfl, rfl⟩, rfl, rfl, rfl, rfl, rfl, rfl, rfl, rfl, (fun _ => rfl), rfl, Nat.le_refl _, .inl ⟨rfl, rfl⟩, (by with_reducible assumption), rfl, (by with_reducible assumption), (by with_reducible assumption), (by with_reducible assumption), q2, (by with_reducible assumption), q1, (by with_reducible assumption), q2, (by with_reducible assumption), q1, (by with_reducible assumption), (by with_reducible assumption), (by with_reducible assumption), (by with_reducible assumption), (by with_reducible assumption), (by with_reducible assumption), trivial⟩) flGood flGood (fun _ => hj) (by show foMb (T j) = _; rw [hT]) (by show foMb (if j = j then _ else _) = _; rw [if_pos rfl]) (.inl ⟨rfl, hj⟩) (fun k hk hne => ⟨hk, by show foMb (if k = j then _ else T k) = foMb (T k); rw [if_neg hne]⟩)
theorem fsD2_1 (m : Nat) (f : Nat → Nat → AV) (n : Nat) (S : MS) (T : Nat → FW) (ii j of len : Nat) (E : Nat → Int) (p : PO) (u : UO) (kk : Nat) : roundB EFo 3000 foStep (h0F foF (foU m f n)) [(900, Src.nm 900)] (locSt foF (flS m f n S T ii) true (foMb (FW.mk 2 of len E p u)) j []) [Hint.node [(15, [Hint.a AV.nilp, Hint.a (AV.ptr 901 0 0), Hint.a AV.nilp, Hint.a (AV.ptr 901 0 0), Hint.b true])]] (locSt foF (flS m f n (pshY S u) (updW T j (FW.mk 0 of len E p u)) ii) true (foMb (FW.mk 0 of len E p u)) j []) =
 some (Ex.norm, [(0 : Nat) = 0,
 m = m,
 (none : Option Nat) = none,
 Int.ofNat n = Int.ofNat n,
 (0 : Nat) = 0,
 (0 : Nat) = 0,
 (0 : Nat) = 0,
 (6 : Nat) = 6,
 some 6 = some 6,
 Int.ofNat ii = Int.ofNat ii,
 false = false,
 of + len ≤ of + len,
 LF E = LF E ∧ plainSh [CK.int IntKind.i64] = true ∨ ∀ (i : Nat), i < of + len → rowOb [CK.int IntKind.i64] 0 (LF E i) (LF E i),
 false = false,
 (6 : Nat) ≤ (6 : Nat),
 ∀ (i : Nat), i < 6 → rowV (CM.mk 6 6703903964971298549787012499102923063739682910296196688861780721860882015036773488400937149083451713845015929093243025426876941405973284973216824503042048 [(900, Src.nm 900)]) foF.sh 0 (upd (lrow 6703903964971298549787012499102923063739682910296196688861780721860882015036773488400937149083451713845015929093243025426876941405973284973216824503042048 2 (flS m f n S T ii).M j) (0 + ((avInt (f (0 + ii) 0)).tmod 6).toNat) 2 (ofVal (Value.pointer none)).cells i) (lrow 6703903964971298549787012499102923063739682910296196688861780721860882015036773488400937149083451713845015929093243025426876941405973284973216824503042048 2 (flS m f n (pshY S u) (updW T j (FW.mk 0 of len E p u)) ii).M j i),
 true = true,
 (1 : Nat) ≤ (1 : Nat),
 tabF tab = tabF tab ∧ plainSh (List.map kindOfV tab) = true ∨ ∀ (i : Nat), i < 1 → rowOb (List.map kindOfV tab) 0 (tabF tab i) (tabF tab i),
 (pshY S u).st = (pshY S u).st,
 (pshY S u).L.c = (pshY S u).L.c,
 (pshY S u).L.k = (pshY S u).L.k,
 (pshY S u).L.a = (pshY S u).L.a,
 (pshY S u).L.f = (pshY S u).L.f,
 (pshY S u).L.w = (pshY S u).L.w,
 (pshY S u).L.i = (pshY S u).L.i,
 (pshY S u).L.d = (pshY S u).L.d,
 ∀ (k : List Int), (pshY S u).M k = (pshY S u).M k,
 true = true,
 m ≤ m,
 f = f ∧ plainSh [CK.int IntKind.u8] = true ∨ ∀ (i : Nat), i < m → rowOb [CK.int IntKind.u8] 0 (f i) (f i),
 (0 + ((avInt (f (0 + ii) 0)).tmod 6).toNat).blt 6 = true,
 decide ((pshX S u).ln = 0) = true,
 tabF tab = tabF tab,
 U64 S,
 Ln3 u.ln,
 R64 u.h,
 lrow 6703903964971298549787012499102923063739682910296196688861780721860882015036773488400937149083451713845015929093243025426876941405973284973216824503042048 2 (flS m f n S T ii).M j (0 + ((avInt (f (0 + ii) 0)).tmod 6).toNat) 2 = AV.ptr 901 0 0,
 (0 + ((avInt (f (0 + ii) 0)).tmod 6).toNat).blt 6 = true,
 lrow 6703903964971298549787012499102923063739682910296196688861780721860882015036773488400937149083451713845015929093243025426876941405973284973216824503042048 2 (flS m f n S T ii).M j (0 + ((avInt (f (0 + ii) 0)).tmod 6).toNat) 1 = AV.nilp,
 (0 + ((avInt (f (0 + ii) 0)).tmod 6).toNat).blt 6 = true,
 lrow 6703903964971298549787012499102923063739682910296196688861780721860882015036773488400937149083451713845015929093243025426876941405973284973216824503042048 2 (flS m f n S T ii).M j (0 + ((avInt (f (0 + ii) 0)).tmod 6).toNat) 2 = AV.ptr 901 0 0,
 (0 + ((avInt (f (0 + ii) 0)).tmod 6).toNat).blt 6 = true,
 lrow 6703903964971298549787012499102923063739682910296196688861780721860882015036773488400937149083451713845015929093243025426876941405973284973216824503042048 2 (flS m f n S T ii).M j (0 + ((avInt (f (0 + ii) 0)).tmod 6).toNat) 1 = AV.nilp,
 (0 + ((avInt (f (0 + ii) 0)).tmod 6).toNat).blt 6 = true,
 (0 + ii).blt m = true,
 (ii.blt m && decide (0 ≤ Int.ofNat ii)) = true,
 (((avInt (f (0 + ii) 0)).tmod 6).toNat.blt 6 && decide (0 ≤ (avInt (f (0 + ii) 0)).tmod 6)) = true,
 (0 + ii).blt m = true,
 (ii.blt m && decide (0 ≤ Int.ofNat ii)) = true]) := by kernel_rfl
theorem fsD2_ex (m : Nat) (f : Nat → Nat → AV) (n : Nat) (S : MS) (T : Nat → FW) (ii j of len : Nat) (E : Nat → Int) (p : PO) (u : UO) (kk : Nat) (hii : ii < m) (hj : j < 6) (hr0 : 0 ≤ (avInt (f (0 + ii) 0)).tmod 6) (hjt : ((avInt (f (0 + ii) 0)).tmod 6).toNat = j) (hT : T j = ⟨2, of, len, E, p, u⟩) (hu : U64 S) (huo : UoOk u) (hz : (pshX S u).ln = 0) : FEx Tryd.prog foF (foU m f n) foStep (flS m f n S T ii) .norm (flS m f n (pshY S u) (updW T j ⟨0, of, len, E, p, u⟩) ii) := by
  have hIX : (0 + ((avInt (f (0 + ii) 0)).tmod 6).toNat) = j := by rw [Nat.zero_add]; exact hjt
  have hii1 : (0 + ii).blt m = true := by rw [Nat.zero_add]; simpa [Nat.blt_eq] using hii
  have hii2 : (ii.blt m && decide (0 ≤ Int.ofNat ii)) = true := by rw [Bool.and_eq_true]; exact ⟨by simpa [Nat.blt_eq] using hii, decide_eq_true (by simp)⟩
  have hjb : (0 + ((avInt (f (0 + ii) 0)).tmod 6).toNat).blt 6 = true := by rw [hIX]; simpa [Nat.blt_eq] using hj
  have hjb2 : (((avInt (f (0 + ii) 0)).tmod 6).toNat.blt 6 && decide (0 ≤ (avInt (f (0 + ii) 0)).tmod 6)) = true := by rw [Bool.and_eq_true, hjt]; exact ⟨by simpa [Nat.blt_eq] using hj, decide_eq_true hr0⟩
  have hjt' : ((avInt (f ii 0)).tmod 6).toNat = j := by rw [← hjt, Nat.zero_add]
  have hz1 : decide ((pshX S u).ln = 0) = true := decide_eq_true hz
  have po1 := huo.l
  have po2 := huo.h
  have q0 : (lrow fam0 2 (flS m f n S T ii).M j) (0 + ((avInt (f (0 + ii) 0)).tmod 6).toNat) 0 = AV.ss 1 900 of len none := by rw [hIX, lrow_j (mb := foMb ⟨2, of, len, E, p, u⟩) (by show foMb (T j) = _; rw [hT])]; rfl
  have q1 : (lrow fam0 2 (flS m f n S T ii).M j) (0 + ((avInt (f (0 + ii) 0)).tmod 6).toNat) 1 = AV.nilp := by rw [hIX, lrow_j (mb := foMb ⟨2, of, len, E, p, u⟩) (by show foMb (T j) = _; rw [hT])]; rfl
  have q2 : (lrow fam0 2 (flS m f n S T ii).M j) (0 + ((avInt (f (0 + ii) 0)).tmod 6).toNat) 2 = AV.ptr 901 0 0 := by rw [hIX, lrow_j (mb := foMb ⟨2, of, len, E, p, u⟩) (by show foMb (T j) = _; rw [hT])]; rfl
  have r0 : (lrow fam0 2 (flS m f n S T ii).M j) j 0 = AV.ss 1 900 of len none := by rw [lrow_j (mb := foMb ⟨2, of, len, E, p, u⟩) (by show foMb (T j) = _; rw [hT])]; rfl
  have r1 : (lrow fam0 2 (flS m f n S T ii).M j) j 1 = AV.nilp := by rw [lrow_j (mb := foMb ⟨2, of, len, E, p, u⟩) (by show foMb (T j) = _; rw [hT])]; rfl
  have r2 : (lrow fam0 2 (flS m f n S T ii).M j) j 2 = AV.ptr 901 0 0 := by rw [lrow_j (mb := foMb ⟨2, of, len, E, p, u⟩) (by show foMb (T j) = _; rw [hT])]; rfl
  have c0 : (upd (lrow fam0 2 (flS m f n S T ii).M j) (0 + ((avInt (f (0 + ii) 0)).tmod 6).toNat) 2 [.nilp]) j 0 = AV.ss 1 900 of len none := by simp [upd, nth, hjt', r0]
  have c1 : (upd (lrow fam0 2 (flS m f n S T ii).M j) (0 + ((avInt (f (0 + ii) 0)).tmod 6).toNat) 2 [.nilp]) j 1 = AV.nilp := by simp [upd, nth, hjt', r1]
  have c2 : (upd (lrow fam0 2 (flS m f n S T ii).M j) (0 + ((avInt (f (0 + ii) 0)).tmod 6).toNat) 2 [.nilp]) j 2 = AV.nilp := by simp [upd, nth, hjt']
  have hrow : ∀ k0, k0 < 6 → rowV (CM.mk 6 fam0 [(900, Src.nm 900)]) [.val, .val, .val] 0 ((upd (lrow fam0 2 (flS m f n S T ii).M j) (0 + ((avInt (f (0 + ii) 0)).tmod 6).toNat) 2 [.nilp]) k0) (lrow fam0 2 (flS m f n (pshY S u) (updW T j ⟨0, of, len, E, p, u⟩) ii).M j k0) := fun k0 hk0 =>
    fam_rowsK (F := foF) (c := CM.mk 6 fam0 [(900, Src.nm 900)]) (n' := 6) (Nat.le_refl _) (M := fun k => foMb (T k)) (M' := fun k => foMb (updW T j ⟨0, of, len, E, p, u⟩ k)) (j := j) (src := (upd (lrow fam0 2 (flS m f n S T ii).M j) (0 + ((avInt (f (0 + ii) 0)).tmod 6).toNat) 2 [.nilp])) (fun i _ hi => ⟨foMb_ok _, by show foMb (if i = j then _ else T i) = _; rw [if_neg hi], fun cc => by simp [upd, hjt', hi]; exact lrow_ne hi⟩)
      (fun _ => by show rowV _ [.val, .val, .val] 0 _ (fun cc => mrow 2 900 (foMb (if j = j then _ else T j)) cc); rw [if_pos rfl]; exact ⟨valV_eq c0 (valV_ss rfl), valV_eq c1 (valV_nilp), valV_eq c2 (valV_nilp), trivial⟩) k0 hk0
  refine fex_loc EFo_ok foFam foSOk j true true (mb := foMb ⟨2, of, len, E, p, u⟩) (mb' := foMb ⟨0, of, len, E, p, u⟩) (fsD2_1 m f n S T ii j of len E p u kk) (cj ⟨rfl, rfl, rfl, rfl, rfl, rfl, rfl, rfl, rfl, rfl, rfl, Nat.le_refl _, .inl ⟨rfl, rfl⟩, rfl, Nat.le_refl _, hrow, rfl, Nat.le_refl _, .inl ⟨rfl, rfl⟩, rfl, rfl, rfl, rfl, rfl, rfl, rfl, rfl, (fun _ => rfl), rfl, Nat.le_refl _, .inl ⟨rfl, rfl⟩, (by with_reducible assumption), (by with_reducible assumption), rfl, (by with_reducible assumption), (by with_reducible assumption), (by with_reducible assumption), q2, (by with_reducible assumption), q1, (by with_reducible assumption), q2, (by with_reducible assumption), q1, (by with_reducible assumption), (by with_reducible assumption), (by with_reducible assumption), (by with_reducible assumption), (by with_reducible assumption), (by with_reducible assumption), trivial⟩) flGood flGood (fun _ => hj) (by show foMb (T j) = _; rw [hT]) (by show foMb (if j = j then _ else _) = _; rw [if_pos rfl]) (.inl ⟨rfl, hj⟩) (fun k hk hne => ⟨hk, by show foMb (if k = j then _ else T k) = foMb (T k); rw [if_neg hne]⟩)
end Go.Proofs.YtljeiencnpnbkaaDoor
