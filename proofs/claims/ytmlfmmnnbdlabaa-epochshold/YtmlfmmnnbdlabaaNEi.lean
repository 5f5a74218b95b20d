/-
  EpochsHold: a step of a thread.
-/
import Derived.Test.YtmlfmmnnbdlabaaNEiDef
set_option linter.unusedSimpArgs false
set_option linter.unusedVariables false
namespace Go.Proofs.Ytmlfmmnnbdlabaa
open Go.Ev
theorem hA_1 (m : Nat) (f : Nat → Nat → AV) (e0 : Int) (ii : Nat) (x y : HX) (j : Nat) (i : Bool) (a e p : Int) : roundB Ehd 3000 hdXs (h0F hdF (hdU m f e0)) [(5, Src.nm 5), (900, Src.nm 2148162586431843102196155738543111943642171342715761268098409960313087803890567676642145998088874603130269386458711296599798824608237289191246846231507)] (locSt hdF (hdT m f ii x) true (hdMb j (HO.mk 0 i a e p)) j []) [Hint.node [(21, [Hint.a AV.nilp, Hint.a AV.nilp, Hint.a AV.nilp, Hint.b true, Hint.a (AV.ptr 2148162586431843102196155738543111943642171342715761268098409960313087803890567676642145998088874603130269386458711296599798824608237289191246846231507 0 0), Hint.a (AV.ptr 2148162586431843102196155738543111943642171342715761268098409960313087803890567676642145998088874603130269386458711296599798824608237289191246846231507 0 0)])], Hint.b false, Hint.b false] (locSt hdF (hdT1 m f ii y) true (hdMb j (HO.mk 2 i a (hdE x.S) 0)) j []) =
 some (Ex.norm, [(0 : Nat) = 0,
 m = m,
 (none : Option Nat) = none,
 (0 : Nat) = 0,
 (0 : Nat) = 0,
 (0 : Nat) = 0,
 (8 : Nat) = 8,
 some 8 = some 8,
 Int.ofNat ii = Int.ofNat ii,
 mget x.S.M (key 1 0 0) = hdE y.S,
 mget x.S.M (key 1 0 0) = hdE x.S,
 false = false,
 (8 : Nat) ≤ (8 : Nat),
 ∀ (i : Nat), i < 8 → rowV (CM.mk 5 fam0 [(5, Src.nm 5), (900, Src.nm 2148162586431843102196155738543111943642171342715761268098409960313087803890567676642145998088874603130269386458711296599798824608237289191246846231507)]) hdF.sh 0 (upd (lrow fam0 1 (hdT m f ii x).M j) (0 + ((avInt (f (0 + ii) 0)).tmod 8).toNat) 4 (oneOrAll [AV.ptr 2148162586431843102196155738543111943642171342715761268098409960313087803890567676642145998088874603130269386458711296599798824608237289191246846231507 0 0]).cells i) (lrow fam0 1 (hdT1 m f ii y).M j i),
 IntKind.i64.wrap (IntKind.i64.wrap (x.S.st + 1) + 1) = y.S.st,
 1 = y.S.L.c,
 1 = y.S.L.k,
 0 = y.S.L.a,
 0 = y.S.L.f,
 mget x.S.M (key 1 0 0) = y.S.L.w,
 mget x.S.M (key 1 0 0) = y.S.L.i,
 false = y.S.L.d,
 ∀ (k : List Int), x.S.M k = y.S.M k,
 true = true,
 m ≤ m,
 f = f ∧ plainSh [CK.int IntKind.u8] = true ∨ ∀ (i : Nat), i < m → rowOb [CK.int IntKind.u8] 0 (f i) (f i),
 decide (mget x.S.M (key 1 0 0) > IntKind.u64.wrap (hdE x.S + 1)) = false,
 decide (mget x.S.M (key 1 0 0) < hdE x.S) = false,
 upd (lrow fam0 1 (hdT m f ii x).M j) (0 + ((avInt (f (0 + ii) 0)).tmod 8).toNat) 4 (oneOrAll [AV.ptr 2148162586431843102196155738543111943642171342715761268098409960313087803890567676642145998088874603130269386458711296599798824608237289191246846231507 0 0]).cells (0 + ((avInt (f (0 + ii) 0)).tmod 8).toNat) 4 = AV.ptr 2148162586431843102196155738543111943642171342715761268098409960313087803890567676642145998088874603130269386458711296599798824608237289191246846231507 0 0,
 (0 + ((avInt (f (0 + ii) 0)).tmod 8).toNat).blt 8 = true,
 upd (lrow fam0 1 (hdT m f ii x).M j) (0 + ((avInt (f (0 + ii) 0)).tmod 8).toNat) 4 (oneOrAll [AV.ptr 2148162586431843102196155738543111943642171342715761268098409960313087803890567676642145998088874603130269386458711296599798824608237289191246846231507 0 0]).cells (0 + ((avInt (f (0 + ii) 0)).tmod 8).toNat) 4 = AV.ptr 2148162586431843102196155738543111943642171342715761268098409960313087803890567676642145998088874603130269386458711296599798824608237289191246846231507 0 0,
 (0 + ((avInt (f (0 + ii) 0)).tmod 8).toNat).blt 8 = true,
 (0 + ((avInt (f (0 + ii) 0)).tmod 8).toNat).blt 8 = true,
 ((IntKind.u8.wrap ((avInt (f (0 + ii) 0)).tdiv 8)).tmod 2 == 1) = true,
 lrow fam0 1 (hdT m f ii x).M j (0 + ((avInt (f (0 + ii) 0)).tmod 8).toNat) 4 = AV.nilp,
 (0 + ((avInt (f (0 + ii) 0)).tmod 8).toNat).blt 8 = true,
 lrow fam0 1 (hdT m f ii x).M j (0 + ((avInt (f (0 + ii) 0)).tmod 8).toNat) 3 = AV.nilp,
 (0 + ((avInt (f (0 + ii) 0)).tmod 8).toNat).blt 8 = true,
 lrow fam0 1 (hdT m f ii x).M j (0 + ((avInt (f (0 + ii) 0)).tmod 8).toNat) 2 = AV.nilp,
 (0 + ((avInt (f (0 + ii) 0)).tmod 8).toNat).blt 8 = true,
 (0 + ii).blt m = true,
 (ii.blt m && decide (0 ≤ Int.ofNat ii)) = true,
 (0 + ii).blt m = true,
 (ii.blt m && decide (0 ≤ Int.ofNat ii)) = true,
 (((avInt (f (0 + ii) 0)).tmod 8).toNat.blt 8 && decide (0 ≤ (avInt (f (0 + ii) 0)).tmod 8)) = true,
 (0 + ii).blt m = true,
 (ii.blt m && decide (0 ≤ Int.ofNat ii)) = true]) := by kernel_rfl
theorem hA_ex {m : Nat} {f : Nat → Nat → AV} {e0 : Int} {ii : Nat} {x : HX} {j : Nat} {i : Bool} {a e p : Int} (hin : ii < m) (hj8 : j < 8) (hr0 : 0 ≤ (avInt (f (0 + ii) 0)).tmod 8) (hjt : ((avInt (f (0 + ii) 0)).tmod 8).toNat = j) (ho : x.O j = ⟨0, i, a, e, p⟩) (hbt : ((IntKind.u8.wrap ((avInt (f (0 + ii) 0)).tdiv 8)).tmod 2 == 1) = true) {z : FSt}
    (hT1 : decide (hdE (mLoad (mLoad x.S 1 0 0) 1 0 0) > IntKind.u64.wrap (hdE x.S + 1)) = false) (hT2 : decide (hdE (mLoad (mLoad x.S 1 0 0) 1 0 0) < hdE x.S) = false)
    (hrest : FEx Try.prog hdF (hdU m f e0) hdY (hdT1 m f ii ⟨mLoad (mLoad x.S 1 0 0) 1 0 0, fun k => if k = j then ⟨2, i, a, hdE x.S, 0⟩ else x.O k⟩) .norm z) : FEx Try.prog hdF (hdU m f e0) (seqs (headC 3 hdX_) hdY) (hdT m f ii x) .norm z := by
  have hIX : (0 + ((avInt (f (0 + ii) 0)).tmod 8).toNat) = j := by rw [Nat.zero_add]; exact hjt
  have hii1 : (0 + ii).blt m = true := by rw [Nat.zero_add]; simpa [Nat.blt_eq] using hin
  have hii2 : (ii.blt m && decide (0 ≤ Int.ofNat ii)) = true := by rw [Bool.and_eq_true]; exact ⟨by simpa [Nat.blt_eq] using hin, decide_eq_true (by simp)⟩
  have hjb : (0 + ((avInt (f (0 + ii) 0)).tmod 8).toNat).blt 8 = true := by rw [hIX]; simpa [Nat.blt_eq] using hj8
  have hjb2 : (((avInt (f (0 + ii) 0)).tmod 8).toNat.blt 8 && decide (0 ≤ (avInt (f (0 + ii) 0)).tmod 8)) = true := by rw [Bool.and_eq_true, hjt]; exact ⟨by simpa [Nat.blt_eq] using hj8, decide_eq_true hr0⟩
  have hrr : (avInt (f (0 + ii) 0)).tmod 8 = (j : Int) := by rw [← hjt]; exact (Int.toNat_of_nonneg hr0).symm
  have hjt' : ((avInt (f ii 0)).tmod 8).toNat = j := by rw [← hjt, Nat.zero_add]
  have hjw : IntKind.i64.wrap ((avInt (f (0 + ii) 0)).tmod 8) = Int.ofNat j := by rw [hrr, wrap_nat64 _ (by omega) (by omega)]; rfl
  have hw1 : decide (IntKind.i64.wrap ((avInt (f (0 + ii) 0)).tmod 8) ≥ 16) = false := decide_eq_false (by rw [hjw]; simp; omega)
  have hw2 : decide (IntKind.i64.wrap ((avInt (f (0 + ii) 0)).tmod 8) < 0) = false := decide_eq_false (by rw [hjw]; simp)
  have q0 : lrow fam0 1 (hdT m f ii x).M j (0 + ((avInt (f (0 + ii) 0)).tmod 8).toNat) 0 = AV.symb i := by rw [hIX, lrow_j (mb := hdMb j ⟨0, i, a, e, p⟩) (by show hdMb j (x.O j) = _; rw [ho])]; rfl
  have q1 : lrow fam0 1 (hdT m f ii x).M j (0 + ((avInt (f (0 + ii) 0)).tmod 8).toNat) 1 = AV.sym .u64 a := by rw [hIX, lrow_j (mb := hdMb j ⟨0, i, a, e, p⟩) (by show hdMb j (x.O j) = _; rw [ho])]; rfl
  have q2 : lrow fam0 1 (hdT m f ii x).M j (0 + ((avInt (f (0 + ii) 0)).tmod 8).toNat) 2 = AV.nilp := by rw [hIX, lrow_j (mb := hdMb j ⟨0, i, a, e, p⟩) (by show hdMb j (x.O j) = _; rw [ho])]; rfl
  have q3 : lrow fam0 1 (hdT m f ii x).M j (0 + ((avInt (f (0 + ii) 0)).tmod 8).toNat) 3 = AV.nilp := by rw [hIX, lrow_j (mb := hdMb j ⟨0, i, a, e, p⟩) (by show hdMb j (x.O j) = _; rw [ho])]; rfl
  have q4 : lrow fam0 1 (hdT m f ii x).M j (0 + ((avInt (f (0 + ii) 0)).tmod 8).toNat) 4 = AV.nilp := by rw [hIX, lrow_j (mb := hdMb j ⟨0, i, a, e, p⟩) (by show hdMb j (x.O j) = _; rw [ho])]; rfl
  have u1 : (upd (lrow fam0 1 (hdT m f ii x).M j) (0 + ((avInt (f (0 + ii) 0)).tmod 8).toNat) 4 [.ptr 2148162586431843102196155738543111943642171342715761268098409960313087803890567676642145998088874603130269386458711296599798824608237289191246846231507 0 0]) (0 + ((avInt (f (0 + ii) 0)).tmod 8).toNat) 4 = AV.ptr 2148162586431843102196155738543111943642171342715761268098409960313087803890567676642145998088874603130269386458711296599798824608237289191246846231507 0 0 := by simp [upd, nth]
  have r0 : lrow fam0 1 (hdT m f ii x).M j j 0 = AV.symb i := by rw [lrow_j (mb := hdMb j ⟨0, i, a, e, p⟩) (by show hdMb j (x.O j) = _; rw [ho])]; rfl
  have r1 : lrow fam0 1 (hdT m f ii x).M j j 1 = AV.sym .u64 a := by rw [lrow_j (mb := hdMb j ⟨0, i, a, e, p⟩) (by show hdMb j (x.O j) = _; rw [ho])]; rfl
  have r2 : lrow fam0 1 (hdT m f ii x).M j j 2 = AV.nilp := by rw [lrow_j (mb := hdMb j ⟨0, i, a, e, p⟩) (by show hdMb j (x.O j) = _; rw [ho])]; rfl
  have r3 : lrow fam0 1 (hdT m f ii x).M j j 3 = AV.nilp := by rw [lrow_j (mb := hdMb j ⟨0, i, a, e, p⟩) (by show hdMb j (x.O j) = _; rw [ho])]; rfl
  have r4 : lrow fam0 1 (hdT m f ii x).M j j 4 = AV.nilp := by rw [lrow_j (mb := hdMb j ⟨0, i, a, e, p⟩) (by show hdMb j (x.O j) = _; rw [ho])]; rfl
  have c0 : (upd (lrow fam0 1 (hdT m f ii x).M j) (0 + ((avInt (f (0 + ii) 0)).tmod 8).toNat) 4 [.ptr 2148162586431843102196155738543111943642171342715761268098409960313087803890567676642145998088874603130269386458711296599798824608237289191246846231507 0 0]) j 0 = AV.symb i := by simp [upd, nth, hjt', r0]
  have c1 : (upd (lrow fam0 1 (hdT m f ii x).M j) (0 + ((avInt (f (0 + ii) 0)).tmod 8).toNat) 4 [.ptr 2148162586431843102196155738543111943642171342715761268098409960313087803890567676642145998088874603130269386458711296599798824608237289191246846231507 0 0]) j 1 = AV.sym .u64 a := by simp [upd, nth, hjt', r1]
  have c2 : (upd (lrow fam0 1 (hdT m f ii x).M j) (0 + ((avInt (f (0 + ii) 0)).tmod 8).toNat) 4 [.ptr 2148162586431843102196155738543111943642171342715761268098409960313087803890567676642145998088874603130269386458711296599798824608237289191246846231507 0 0]) j 2 = AV.nilp := by simp [upd, nth, hjt', r2]
  have c3 : (upd (lrow fam0 1 (hdT m f ii x).M j) (0 + ((avInt (f (0 + ii) 0)).tmod 8).toNat) 4 [.ptr 2148162586431843102196155738543111943642171342715761268098409960313087803890567676642145998088874603130269386458711296599798824608237289191246846231507 0 0]) j 3 = AV.nilp := by simp [upd, nth, hjt', r3]
  have c4 : (upd (lrow fam0 1 (hdT m f ii x).M j) (0 + ((avInt (f (0 + ii) 0)).tmod 8).toNat) 4 [.ptr 2148162586431843102196155738543111943642171342715761268098409960313087803890567676642145998088874603130269386458711296599798824608237289191246846231507 0 0]) j 4 = AV.ptr 2148162586431843102196155738543111943642171342715761268098409960313087803890567676642145998088874603130269386458711296599798824608237289191246846231507 0 0 := by simp [upd, nth, hjt']
  have hrow : ∀ k0, k0 < 8 → rowV (CM.mk 5 fam0 [(5, Src.nm 5), (900, Src.nm 2148162586431843102196155738543111943642171342715761268098409960313087803890567676642145998088874603130269386458711296599798824608237289191246846231507)]) hdSh 0 ((upd (lrow fam0 1 (hdT m f ii x).M j) (0 + ((avInt (f (0 + ii) 0)).tmod 8).toNat) 4 [.ptr 2148162586431843102196155738543111943642171342715761268098409960313087803890567676642145998088874603130269386458711296599798824608237289191246846231507 0 0]) k0) (lrow fam0 1 (hdT1 m f ii ⟨mLoad (mLoad x.S 1 0 0) 1 0 0, fun k => if k = j then ⟨2, i, a, hdE x.S, 0⟩ else x.O k⟩).M j k0) := hd_rows (y := ⟨mLoad (mLoad x.S 1 0 0) 1 0 0, fun k => if k = j then ⟨2, i, a, hdE x.S, 0⟩ else x.O k⟩) (x := x) (Nat.le_refl _) (fun k0 hk0 => if_neg hk0) (fun k0 hk0 cc => by simp [upd, hjt', hk0]; rfl)
    (by show rowV _ hdSh 0 _ (fun cc => mrow 1 900 (hdMb j (if j = j then ⟨2, i, a, hdE x.S, 0⟩ else _)) cc); rw [if_pos rfl]; exact ⟨by rw [c0]; rfl, by rw [c1]; rfl, by rw [c2]; exact valV_nilp, by rw [c3]; exact valV_nilp, by rw [c4]; exact valV_ptr (n := 900) rfl, trivial⟩)
  refine fex_pre Ehd_ok hdFam hdSOk j true true (hA_1 m f e0 ii x ⟨mLoad (mLoad x.S 1 0 0) 1 0 0, fun k => if k = j then ⟨2, i, a, hdE x.S, 0⟩ else x.O k⟩ j i a e p) (cj ⟨rfl, rfl, rfl, rfl, rfl, rfl, rfl, rfl, rfl, rfl, rfl, rfl, Nat.le_refl _, hrow, rfl, rfl, rfl, rfl, rfl, rfl, rfl, rfl, (fun _ => rfl), rfl, Nat.le_refl _, .inl ⟨rfl, rfl⟩, hT1, hT2, u1, hjb, u1, hjb, hjb, hbt, q4, hjb, q3, hjb, q2, hjb, hii1, hii2, hii1, hii2, hjb2, hii1, hii2, trivial⟩) (hdG _ _ _ _) (hdG1 _ _ _ _) (fun _ => hj8) (by show hdMb j (x.O j) = _; rw [ho]) (by show hdMb j (if j = j then _ else _) = _; rw [if_pos rfl]) (.inl ⟨rfl, hj8⟩) (fun k hk hne => ⟨hk, by show hdMb k (if k = j then _ else x.O k) = hdMb k (x.O k); rw [if_neg hne]⟩) hrest
theorem hB_1 (m : Nat) (f : Nat → Nat → AV) (e0 : Int) (ii : Nat) (x y : HX) (j : Nat) (i : Bool) (a e p : Int) : roundB Ehd 3000 hdXs (h0F hdF (hdU m f e0)) [(5, Src.nm 5)] (locSt hdF (hdT m f ii x) true (hdMb j (HO.mk 0 i a e p)) j []) [Hint.node [(21, [Hint.a AV.nilp, Hint.a AV.nilp, Hint.a AV.nilp, Hint.b false, Hint.b true, Hint.b false, Hint.b false, Hint.a AV.nilp, Hint.a (AV.ptr 2148162586431843102196155738543111943642171342715761268098409960313087803890567676642145998088874603130269386458711296599798824608237289191246846231508 0 0), Hint.a (AV.ptr 2148162586431843102196155738543111943642171342715761268098409960313087803890567676642145998088874603130269386458711296599798824608237289191246846231508 0 0)])], Hint.b false, Hint.b false] (locSt hdF (hdT1 m f ii y) true (hdMb j (HO.mk 0 false a 0 0)) j []) =
 some (Ex.norm, [(0 : Nat) = 0,
 m = m,
 (none : Option Nat) = none,
 (0 : Nat) = 0,
 (0 : Nat) = 0,
 (0 : Nat) = 0,
 (8 : Nat) = 8,
 some 8 = some 8,
 Int.ofNat ii = Int.ofNat ii,
 mget (memPut x.S.M 8 (IntKind.i64.wrap ((avInt (f (0 + ii) 0)).tmod 8)) 3 0) (key 1 0 0) = hdE y.S,
 false = false,
 (8 : Nat) ≤ (8 : Nat),
 ∀ (i : Nat), i < 8 → rowV (CM.mk 5 fam0 [(5, Src.nm 5)]) hdF.sh 0 (upd (upd (upd (lrow fam0 1 (hdT m f ii x).M j) (0 + ((avInt (f (0 + ii) 0)).tmod 8).toNat) 3 (oneOrAll [AV.ptr 2148162586431843102196155738543111943642171342715761268098409960313087803890567676642145998088874603130269386458711296599798824608237289191246846231508 0 0]).cells) (0 + ((avInt (f (0 + ii) 0)).tmod 8).toNat) 0 (ofVal (Value.bool false)).cells) (0 + ((avInt (f (0 + ii) 0)).tmod 8).toNat) 3 (ofVal (Value.pointer none)).cells i) (lrow fam0 1 (hdT1 m f ii y).M j i),
 IntKind.i64.wrap (IntKind.i64.wrap (x.S.st + 1) + 1) = y.S.st,
 1 = y.S.L.c,
 1 = y.S.L.k,
 0 = y.S.L.a,
 0 = y.S.L.f,
 mget (memPut x.S.M 8 (IntKind.i64.wrap ((avInt (f (0 + ii) 0)).tmod 8)) 3 0) (key 1 0 0) = y.S.L.w,
 mget (memPut x.S.M 8 (IntKind.i64.wrap ((avInt (f (0 + ii) 0)).tmod 8)) 3 0) (key 1 0 0) = y.S.L.i,
 false = y.S.L.d,
 ∀ (k : List Int), memPut x.S.M 8 (IntKind.i64.wrap ((avInt (f (0 + ii) 0)).tmod 8)) 3 0 k = y.S.M k,
 true = true,
 m ≤ m,
 f = f ∧ plainSh [CK.int IntKind.u8] = true ∨ ∀ (i : Nat), i < m → rowOb [CK.int IntKind.u8] 0 (f i) (f i),
 decide (mget (memPut x.S.M 8 (IntKind.i64.wrap ((avInt (f (0 + ii) 0)).tmod 8)) 3 0) (key 1 0 0) > IntKind.u64.wrap (hdE x.S + 1)) = false,
 decide (mget (memPut x.S.M 8 (IntKind.i64.wrap ((avInt (f (0 + ii) 0)).tmod 8)) 3 0) (key 1 0 0) < hdE x.S) = false,
 (0 + ((avInt (f (0 + ii) 0)).tmod 8).toNat).blt 8 = true,
 (0 : Int) ≤ (8 : Int),
 upd (upd (lrow fam0 1 (hdT m f ii x).M j) (0 + ((avInt (f (0 + ii) 0)).tmod 8).toNat) 3 (oneOrAll [AV.ptr 2148162586431843102196155738543111943642171342715761268098409960313087803890567676642145998088874603130269386458711296599798824608237289191246846231508 0 0]).cells) (0 + ((avInt (f (0 + ii) 0)).tmod 8).toNat) 0 (ofVal (Value.bool false)).cells (0 + ((avInt (f (0 + ii) 0)).tmod 8).toNat) 3 = AV.ptr 2148162586431843102196155738543111943642171342715761268098409960313087803890567676642145998088874603130269386458711296599798824608237289191246846231508 0 0,
 (0 + ((avInt (f (0 + ii) 0)).tmod 8).toNat).blt 8 = true,
 upd (upd (lrow fam0 1 (hdT m f ii x).M j) (0 + ((avInt (f (0 + ii) 0)).tmod 8).toNat) 3 (oneOrAll [AV.ptr 2148162586431843102196155738543111943642171342715761268098409960313087803890567676642145998088874603130269386458711296599798824608237289191246846231508 0 0]).cells) (0 + ((avInt (f (0 + ii) 0)).tmod 8).toNat) 0 (ofVal (Value.bool false)).cells (0 + ((avInt (f (0 + ii) 0)).tmod 8).toNat) 3 = AV.ptr 2148162586431843102196155738543111943642171342715761268098409960313087803890567676642145998088874603130269386458711296599798824608237289191246846231508 0 0,
 (0 + ((avInt (f (0 + ii) 0)).tmod 8).toNat).blt 8 = true,
 upd (upd (lrow fam0 1 (hdT m f ii x).M j) (0 + ((avInt (f (0 + ii) 0)).tmod 8).toNat) 3 (oneOrAll [AV.ptr 2148162586431843102196155738543111943642171342715761268098409960313087803890567676642145998088874603130269386458711296599798824608237289191246846231508 0 0]).cells) (0 + ((avInt (f (0 + ii) 0)).tmod 8).toNat) 0 (ofVal (Value.bool false)).cells (0 + ((avInt (f (0 + ii) 0)).tmod 8).toNat) 4 = AV.nilp,
 (0 + ((avInt (f (0 + ii) 0)).tmod 8).toNat).blt 8 = true,
 (0 + ((avInt (f (0 + ii) 0)).tmod 8).toNat).blt 8 = true,
 (0 + ((avInt (f (0 + ii) 0)).tmod 8).toNat).blt 8 = true,
 decide (IntKind.i64.wrap ((avInt (f (0 + ii) 0)).tmod 8) ≥ 16) = false,
 decide (IntKind.i64.wrap ((avInt (f (0 + ii) 0)).tmod 8) < 0) = false,
 avBool (lrow fam0 1 (hdT m f ii x).M j (0 + ((avInt (f (0 + ii) 0)).tmod 8).toNat) 0) = true,
 (0 + ((avInt (f (0 + ii) 0)).tmod 8).toNat).blt 8 = true,
 ((IntKind.u8.wrap ((avInt (f (0 + ii) 0)).tdiv 8)).tmod 2 == 1) = false,
 lrow fam0 1 (hdT m f ii x).M j (0 + ((avInt (f (0 + ii) 0)).tmod 8).toNat) 4 = AV.nilp,
 (0 + ((avInt (f (0 + ii) 0)).tmod 8).toNat).blt 8 = true,
 lrow fam0 1 (hdT m f ii x).M j (0 + ((avInt (f (0 + ii) 0)).tmod 8).toNat) 3 = AV.nilp,
 (0 + ((avInt (f (0 + ii) 0)).tmod 8).toNat).blt 8 = true,
 lrow fam0 1 (hdT m f ii x).M j (0 + ((avInt (f (0 + ii) 0)).tmod 8).toNat) 2 = AV.nilp,
 (0 + ((avInt (f (0 + ii) 0)).tmod 8).toNat).blt 8 = true,
 (0 + ii).blt m = true,
 (ii.blt m && decide (0 ≤ Int.ofNat ii)) = true,
 (0 + ii).blt m = true,
 (ii.blt m && decide (0 ≤ Int.ofNat ii)) = true,
 (((avInt (f (0 + ii) 0)).tmod 8).toNat.blt 8 && decide (0 ≤ (avInt (f (0 + ii) 0)).tmod 8)) = true,
 (0 + ii).blt m = true,
 (ii.blt m && decide (0 ≤ Int.ofNat ii)) = true]) := by kernel_rfl
theorem hB_ex {m : Nat} {f : Nat → Nat → AV} {e0 : Int} {ii : Nat} {x : HX} {j : Nat} {i : Bool} {a e p : Int} (hin : ii < m) (hj8 : j < 8) (hr0 : 0 ≤ (avInt (f (0 + ii) 0)).tmod 8) (hjt : ((avInt (f (0 + ii) 0)).tmod 8).toNat = j) (ho : x.O j = ⟨0, i, a, e, p⟩) (hbt : ((IntKind.u8.wrap ((avInt (f (0 + ii) 0)).tdiv 8)).tmod 2 == 1) = false) (hi : i = true) {z : FSt}
    (hT1 : decide (hdE (mLoad (mStore x.S 8 (IntKind.i64.wrap ((avInt (f (0 + ii) 0)).tmod 8)) 3 0) 1 0 0) > IntKind.u64.wrap (hdE x.S + 1)) = false) (hT2 : decide (hdE (mLoad (mStore x.S 8 (IntKind.i64.wrap ((avInt (f (0 + ii) 0)).tmod 8)) 3 0) 1 0 0) < hdE x.S) = false)
    (hrest : FEx Try.prog hdF (hdU m f e0) hdY (hdT1 m f ii ⟨mLoad (mStore x.S 8 (IntKind.i64.wrap ((avInt (f (0 + ii) 0)).tmod 8)) 3 0) 1 0 0, fun k => if k = j then ⟨0, false, a, 0, 0⟩ else x.O k⟩) .norm z) : FEx Try.prog hdF (hdU m f e0) (seqs (headC 3 hdX_) hdY) (hdT m f ii x) .norm z := by
  have hIX : (0 + ((avInt (f (0 + ii) 0)).tmod 8).toNat) = j := by rw [Nat.zero_add]; exact hjt
  have hii1 : (0 + ii).blt m = true := by rw [Nat.zero_add]; simpa [Nat.blt_eq] using hin
  have hii2 : (ii.blt m && decide (0 ≤ Int.ofNat ii)) = true := by rw [Bool.and_eq_true]; exact ⟨by simpa [Nat.blt_eq] using hin, decide_eq_true (by simp)⟩
  have hjb : (0 + ((avInt (f (0 + ii) 0)).tmod 8).toNat).blt 8 = true := by rw [hIX]; simpa [Nat.blt_eq] using hj8
  have hjb2 : (((avInt (f (0 + ii) 0)).tmod 8).toNat.blt 8 && decide (0 ≤ (avInt (f (0 + ii) 0)).tmod 8)) = true := by rw [Bool.and_eq_true, hjt]; exact ⟨by simpa [Nat.blt_eq] using hj8, decide_eq_true hr0⟩
  have hrr : (avInt (f (0 + ii) 0)).tmod 8 = (j : Int) := by rw [← hjt]; exact (Int.toNat_of_nonneg hr0).symm
  have hjt' : ((avInt (f ii 0)).tmod 8).toNat = j := by rw [← hjt, Nat.zero_add]
  have hjw : IntKind.i64.wrap ((avInt (f (0 + ii) 0)).tmod 8) = Int.ofNat j := by rw [hrr, wrap_nat64 _ (by omega) (by omega)]; rfl
  have hw1 : decide (IntKind.i64.wrap ((avInt (f (0 + ii) 0)).tmod 8) ≥ 16) = false := decide_eq_false (by rw [hjw]; simp; omega)
  have hw2 : decide (IntKind.i64.wrap ((avInt (f (0 + ii) 0)).tmod 8) < 0) = false := decide_eq_false (by rw [hjw]; simp)
  have q0 : lrow fam0 1 (hdT m f ii x).M j (0 + ((avInt (f (0 + ii) 0)).tmod 8).toNat) 0 = AV.symb i := by rw [hIX, lrow_j (mb := hdMb j ⟨0, i, a, e, p⟩) (by show hdMb j (x.O j) = _; rw [ho])]; rfl
  have q1 : lrow fam0 1 (hdT m f ii x).M j (0 + ((avInt (f (0 + ii) 0)).tmod 8).toNat) 1 = AV.sym .u64 a := by rw [hIX, lrow_j (mb := hdMb j ⟨0, i, a, e, p⟩) (by show hdMb j (x.O j) = _; rw [ho])]; rfl
  have q2 : lrow fam0 1 (hdT m f ii x).M j (0 + ((avInt (f (0 + ii) 0)).tmod 8).toNat) 2 = AV.nilp := by rw [hIX, lrow_j (mb := hdMb j ⟨0, i, a, e, p⟩) (by show hdMb j (x.O j) = _; rw [ho])]; rfl
  have q3 : lrow fam0 1 (hdT m f ii x).M j (0 + ((avInt (f (0 + ii) 0)).tmod 8).toNat) 3 = AV.nilp := by rw [hIX, lrow_j (mb := hdMb j ⟨0, i, a, e, p⟩) (by show hdMb j (x.O j) = _; rw [ho])]; rfl
  have q4 : lrow fam0 1 (hdT m f ii x).M j (0 + ((avInt (f (0 + ii) 0)).tmod 8).toNat) 4 = AV.nilp := by rw [hIX, lrow_j (mb := hdMb j ⟨0, i, a, e, p⟩) (by show hdMb j (x.O j) = _; rw [ho])]; rfl
  have ha1 : avBool (lrow fam0 1 (hdT m f ii x).M j (0 + ((avInt (f (0 + ii) 0)).tmod 8).toNat) 0) = true := by rw [q0]; exact hi
  have u1 : (upd (upd (lrow fam0 1 (hdT m f ii x).M j) (0 + ((avInt (f (0 + ii) 0)).tmod 8).toNat) 3 [.ptr 2148162586431843102196155738543111943642171342715761268098409960313087803890567676642145998088874603130269386458711296599798824608237289191246846231508 0 0]) (0 + ((avInt (f (0 + ii) 0)).tmod 8).toNat) 0 [.bool false]) (0 + ((avInt (f (0 + ii) 0)).tmod 8).toNat) 3 = AV.ptr 2148162586431843102196155738543111943642171342715761268098409960313087803890567676642145998088874603130269386458711296599798824608237289191246846231508 0 0 := by simp [upd, nth]
  have u2 : (upd (upd (lrow fam0 1 (hdT m f ii x).M j) (0 + ((avInt (f (0 + ii) 0)).tmod 8).toNat) 3 [.ptr 2148162586431843102196155738543111943642171342715761268098409960313087803890567676642145998088874603130269386458711296599798824608237289191246846231508 0 0]) (0 + ((avInt (f (0 + ii) 0)).tmod 8).toNat) 0 [.bool false]) (0 + ((avInt (f (0 + ii) 0)).tmod 8).toNat) 4 = AV.nilp := by simpa [upd, nth] using q4
  have r0 : lrow fam0 1 (hdT m f ii x).M j j 0 = AV.symb i := by rw [lrow_j (mb := hdMb j ⟨0, i, a, e, p⟩) (by show hdMb j (x.O j) = _; rw [ho])]; rfl
  have r1 : lrow fam0 1 (hdT m f ii x).M j j 1 = AV.sym .u64 a := by rw [lrow_j (mb := hdMb j ⟨0, i, a, e, p⟩) (by show hdMb j (x.O j) = _; rw [ho])]; rfl
  have r2 : lrow fam0 1 (hdT m f ii x).M j j 2 = AV.nilp := by rw [lrow_j (mb := hdMb j ⟨0, i, a, e, p⟩) (by show hdMb j (x.O j) = _; rw [ho])]; rfl
  have r3 : lrow fam0 1 (hdT m f ii x).M j j 3 = AV.nilp := by rw [lrow_j (mb := hdMb j ⟨0, i, a, e, p⟩) (by show hdMb j (x.O j) = _; rw [ho])]; rfl
  have r4 : lrow fam0 1 (hdT m f ii x).M j j 4 = AV.nilp := by rw [lrow_j (mb := hdMb j ⟨0, i, a, e, p⟩) (by show hdMb j (x.O j) = _; rw [ho])]; rfl
  have c0 : (upd (upd (upd (lrow fam0 1 (hdT m f ii x).M j) (0 + ((avInt (f (0 + ii) 0)).tmod 8).toNat) 3 [.ptr 2148162586431843102196155738543111943642171342715761268098409960313087803890567676642145998088874603130269386458711296599798824608237289191246846231508 0 0]) (0 + ((avInt (f (0 + ii) 0)).tmod 8).toNat) 0 [.bool false]) (0 + ((avInt (f (0 + ii) 0)).tmod 8).toNat) 3 [.nilp]) j 0 = AV.bool false := by simp [upd, nth, hjt']
  have c1 : (upd (upd (upd (lrow fam0 1 (hdT m f ii x).M j) (0 + ((avInt (f (0 + ii) 0)).tmod 8).toNat) 3 [.ptr 2148162586431843102196155738543111943642171342715761268098409960313087803890567676642145998088874603130269386458711296599798824608237289191246846231508 0 0]) (0 + ((avInt (f (0 + ii) 0)).tmod 8).toNat) 0 [.bool false]) (0 + ((avInt (f (0 + ii) 0)).tmod 8).toNat) 3 [.nilp]) j 1 = AV.sym .u64 a := by simp [upd, nth, hjt', r1]
  have c2 : (upd (upd (upd (lrow fam0 1 (hdT m f ii x).M j) (0 + ((avInt (f (0 + ii) 0)).tmod 8).toNat) 3 [.ptr 2148162586431843102196155738543111943642171342715761268098409960313087803890567676642145998088874603130269386458711296599798824608237289191246846231508 0 0]) (0 + ((avInt (f (0 + ii) 0)).tmod 8).toNat) 0 [.bool false]) (0 + ((avInt (f (0 + ii) 0)).tmod 8).toNat) 3 [.nilp]) j 2 = AV.nilp := by simp [upd, nth, hjt', r2]
  have c3 : (upd (upd (upd (lrow fam0 1 (hdT m f ii x).M j) (0 + ((avInt (f (0 + ii) 0)).tmod 8).toNat) 3 [.ptr 2148162586431843102196155738543111943642171342715761268098409960313087803890567676642145998088874603130269386458711296599798824608237289191246846231508 0 0]) (0 + ((avInt (f (0 + ii) 0)).tmod 8).toNat) 0 [.bool false]) (0 + ((avInt (f (0 + ii) 0)).tmod 8).toNat) 3 [.nilp]) j 3 = AV.nilp := by simp [upd, nth, hjt']
  have c4 : (upd (upd (upd (lrow fam0 1 (hdT m f ii x).M j) (0 + ((avInt (f (0 + ii) 0)).tmod 8).toNat) 3 [.ptr 2148162586431843102196155738543111943642171342715761268098409960313087803890567676642145998088874603130269386458711296599798824608237289191246846231508 0 0]) (0 + ((avInt (f (0 + ii) 0)).tmod 8).toNat) 0 [.bool false]) (0 + ((avInt (f (0 + ii) 0)).tmod 8).toNat) 3 [.nilp]) j 4 = AV.nilp := by simp [upd, nth, hjt', r4]
  have hrow : ∀ k0, k0 < 8 → rowV (CM.mk 5 fam0 [(5, Src.nm 5)]) hdSh 0 ((upd (upd (upd (lrow fam0 1 (hdT m f ii x).M j) (0 + ((avInt (f (0 + ii) 0)).tmod 8).toNat) 3 [.ptr 2148162586431843102196155738543111943642171342715761268098409960313087803890567676642145998088874603130269386458711296599798824608237289191246846231508 0 0]) (0 + ((avInt (f (0 + ii) 0)).tmod 8).toNat) 0 [.bool false]) (0 + ((avInt (f (0 + ii) 0)).tmod 8).toNat) 3 [.nilp]) k0) (lrow fam0 1 (hdT1 m f ii ⟨mLoad (mStore x.S 8 (IntKind.i64.wrap ((avInt (f (0 + ii) 0)).tmod 8)) 3 0) 1 0 0, fun k => if k = j then ⟨0, false, a, 0, 0⟩ else x.O k⟩).M j k0) := hd_rows (y := ⟨mLoad (mStore x.S 8 (IntKind.i64.wrap ((avInt (f (0 + ii) 0)).tmod 8)) 3 0) 1 0 0, fun k => if k = j then ⟨0, false, a, 0, 0⟩ else x.O k⟩) (x := x) (Nat.le_refl _) (fun k0 hk0 => if_neg hk0) (fun k0 hk0 cc => by simp [upd, hjt', hk0]; rfl)
    (by show rowV _ hdSh 0 _ (fun cc => mrow 1 900 (hdMb j (if j = j then ⟨0, false, a, 0, 0⟩ else _)) cc); rw [if_pos rfl]; exact ⟨by rw [c0]; rfl, by rw [c1]; rfl, by rw [c2]; exact valV_nilp, by rw [c3]; exact valV_nilp, by rw [c4]; exact valV_nilp, trivial⟩)
  refine fex_pre Ehd_ok hdFam hdSOk j true true (hB_1 m f e0 ii x ⟨mLoad (mStore x.S 8 (IntKind.i64.wrap ((avInt (f (0 + ii) 0)).tmod 8)) 3 0) 1 0 0, fun k => if k = j then ⟨0, false, a, 0, 0⟩ else x.O k⟩ j i a e p) (cj ⟨rfl, rfl, rfl, rfl, rfl, rfl, rfl, rfl, rfl, rfl, rfl, Nat.le_refl _, hrow, rfl, rfl, rfl, rfl, rfl, rfl, rfl, rfl, (fun _ => rfl), rfl, Nat.le_refl _, .inl ⟨rfl, rfl⟩, hT1, hT2, hjb, (by decide), u1, hjb, u1, hjb, u2, hjb, hjb, hjb, hw1, hw2, ha1, hjb, hbt, q4, hjb, q3, hjb, q2, hjb, hii1, hii2, hii1, hii2, hjb2, hii1, hii2, trivial⟩) (hdG _ _ _ _) (hdG1 _ _ _ _) (fun _ => hj8) (by show hdMb j (x.O j) = _; rw [ho]) (by show hdMb j (if j = j then _ else _) = _; rw [if_pos rfl]) (.inl ⟨rfl, hj8⟩) (fun k hk hne => ⟨hk, by show hdMb k (if k = j then _ else x.O k) = hdMb k (x.O k); rw [if_neg hne]⟩) hrest
theorem hC_1 (m : Nat) (f : Nat → Nat → AV) (e0 : Int) (ii : Nat) (x y : HX) (j : Nat) (i : Bool) (a e p : Int) : roundB Ehd 3000 hdXs (h0F hdF (hdU m f e0)) [(5, Src.nm 5), (900, Src.nm 2148162586431843102196155738543111943642171342715761268098409960313087803890567676642145998088874603130269386458711296599798824608237289191246846231508)] (locSt hdF (hdT m f ii x) true (hdMb j (HO.mk 0 i a e p)) j []) [Hint.node [(21, [Hint.a AV.nilp, Hint.a AV.nilp, Hint.a AV.nilp, Hint.b false, Hint.b false, Hint.b false, Hint.b false, Hint.a AV.nilp, Hint.a AV.nilp, Hint.a (AV.ptr 2148162586431843102196155738543111943642171342715761268098409960313087803890567676642145998088874603130269386458711296599798824608237289191246846231508 0 0)])], Hint.b false, Hint.b false] (locSt hdF (hdT1 m f ii y) true (hdMb j (HO.mk 1 false a (hdE x.S) 0)) j []) =
 some (Ex.norm, [(0 : Nat) = 0,
 m = m,
 (none : Option Nat) = none,
 (0 : Nat) = 0,
 (0 : Nat) = 0,
 (0 : Nat) = 0,
 (8 : Nat) = 8,
 some 8 = some 8,
 Int.ofNat ii = Int.ofNat ii,
 mget x.S.M (key 1 0 0) = hdE y.S,
 mget x.S.M (key 1 0 0) = hdE x.S,
 IntKind.i64.wrap ((avInt (f (0 + ii) 0)).tmod 8) = Int.ofNat j,
 false = false,
 (8 : Nat) ≤ (8 : Nat),
 ∀ (i : Nat), i < 8 → rowV (CM.mk 5 fam0 [(5, Src.nm 5), (900, Src.nm 2148162586431843102196155738543111943642171342715761268098409960313087803890567676642145998088874603130269386458711296599798824608237289191246846231508)]) hdF.sh 0 (upd (lrow fam0 1 (hdT m f ii x).M j) (0 + ((avInt (f (0 + ii) 0)).tmod 8).toNat) 2 (oneOrAll [AV.ptr 2148162586431843102196155738543111943642171342715761268098409960313087803890567676642145998088874603130269386458711296599798824608237289191246846231508 0 0]).cells i) (lrow fam0 1 (hdT1 m f ii y).M j i),
 IntKind.i64.wrap (IntKind.i64.wrap (x.S.st + 1) + 1) = y.S.st,
 1 = y.S.L.c,
 1 = y.S.L.k,
 0 = y.S.L.a,
 0 = y.S.L.f,
 mget x.S.M (key 1 0 0) = y.S.L.w,
 mget x.S.M (key 1 0 0) = y.S.L.i,
 false = y.S.L.d,
 ∀ (k : List Int), x.S.M k = y.S.M k,
 true = true,
 m ≤ m,
 f = f ∧ plainSh [CK.int IntKind.u8] = true ∨ ∀ (i : Nat), i < m → rowOb [CK.int IntKind.u8] 0 (f i) (f i),
 decide (mget x.S.M (key 1 0 0) > IntKind.u64.wrap (hdE x.S + 1)) = false,
 decide (mget x.S.M (key 1 0 0) < hdE x.S) = false,
 upd (lrow fam0 1 (hdT m f ii x).M j) (0 + ((avInt (f (0 + ii) 0)).tmod 8).toNat) 2 (oneOrAll [AV.ptr 2148162586431843102196155738543111943642171342715761268098409960313087803890567676642145998088874603130269386458711296599798824608237289191246846231508 0 0]).cells (0 + ((avInt (f (0 + ii) 0)).tmod 8).toNat) 2 = AV.ptr 2148162586431843102196155738543111943642171342715761268098409960313087803890567676642145998088874603130269386458711296599798824608237289191246846231508 0 0,
 (0 + ((avInt (f (0 + ii) 0)).tmod 8).toNat).blt 8 = true,
 upd (lrow fam0 1 (hdT m f ii x).M j) (0 + ((avInt (f (0 + ii) 0)).tmod 8).toNat) 2 (oneOrAll [AV.ptr 2148162586431843102196155738543111943642171342715761268098409960313087803890567676642145998088874603130269386458711296599798824608237289191246846231508 0 0]).cells (0 + ((avInt (f (0 + ii) 0)).tmod 8).toNat) 3 = AV.nilp,
 (0 + ((avInt (f (0 + ii) 0)).tmod 8).toNat).blt 8 = true,
 upd (lrow fam0 1 (hdT m f ii x).M j) (0 + ((avInt (f (0 + ii) 0)).tmod 8).toNat) 2 (oneOrAll [AV.ptr 2148162586431843102196155738543111943642171342715761268098409960313087803890567676642145998088874603130269386458711296599798824608237289191246846231508 0 0]).cells (0 + ((avInt (f (0 + ii) 0)).tmod 8).toNat) 4 = AV.nilp,
 (0 + ((avInt (f (0 + ii) 0)).tmod 8).toNat).blt 8 = true,
 (0 + ((avInt (f (0 + ii) 0)).tmod 8).toNat).blt 8 = true,
 decide (IntKind.i64.wrap ((avInt (f (0 + ii) 0)).tmod 8) ≥ 16) = false,
 decide (IntKind.i64.wrap ((avInt (f (0 + ii) 0)).tmod 8) < 0) = false,
 avBool (lrow fam0 1 (hdT m f ii x).M j (0 + ((avInt (f (0 + ii) 0)).tmod 8).toNat) 0) = false,
 (0 + ((avInt (f (0 + ii) 0)).tmod 8).toNat).blt 8 = true,
 ((IntKind.u8.wrap ((avInt (f (0 + ii) 0)).tdiv 8)).tmod 2 == 1) = false,
 lrow fam0 1 (hdT m f ii x).M j (0 + ((avInt (f (0 + ii) 0)).tmod 8).toNat) 4 = AV.nilp,
 (0 + ((avInt (f (0 + ii) 0)).tmod 8).toNat).blt 8 = true,
 lrow fam0 1 (hdT m f ii x).M j (0 + ((avInt (f (0 + ii) 0)).tmod 8).toNat) 3 = AV.nilp,
 (0 + ((avInt (f (0 + ii) 0)).tmod 8).toNat).blt 8 = true,
 lrow fam0 1 (hdT m f ii x).M j (0 + ((avInt (f (0 + ii) 0)).tmod 8).toNat) 2 = AV.nilp,
 (0 + ((avInt (f (0 + ii) 0)).tmod 8).toNat).blt 8 = true,
 (0 + ii).blt m = true,
 (ii.blt m && decide (0 ≤ Int.ofNat ii)) = true,
 (0 + ii).blt m = true,
 (ii.blt m && decide (0 ≤ Int.ofNat ii)) = true,
 (((avInt (f (0 + ii) 0)).tmod 8).toNat.blt 8 && decide (0 ≤ (avInt (f (0 + ii) 0)).tmod 8)) = true,
 (0 + ii).blt m = true,
 (ii.blt m && decide (0 ≤ Int.ofNat ii)) = true]) := by kernel_rfl
theorem hC_ex {m : Nat} {f : Nat → Nat → AV} {e0 : Int} {ii : Nat} {x : HX} {j : Nat} {i : Bool} {a e p : Int} (hin : ii < m) (hj8 : j < 8) (hr0 : 0 ≤ (avInt (f (0 + ii) 0)).tmod 8) (hjt : ((avInt (f (0 + ii) 0)).tmod 8).toNat = j) (ho : x.O j = ⟨0, i, a, e, p⟩) (hbt : ((IntKind.u8.wrap ((avInt (f (0 + ii) 0)).tdiv 8)).tmod 2 == 1) = false) (hi : i = false) {z : FSt}
    (hT1 : decide (hdE (mLoad (mLoad x.S 1 0 0) 1 0 0) > IntKind.u64.wrap (hdE x.S + 1)) = false) (hT2 : decide (hdE (mLoad (mLoad x.S 1 0 0) 1 0 0) < hdE x.S) = false)
    (hrest : FEx Try.prog hdF (hdU m f e0) hdY (hdT1 m f ii ⟨mLoad (mLoad x.S 1 0 0) 1 0 0, fun k => if k = j then ⟨1, false, a, hdE x.S, 0⟩ else x.O k⟩) .norm z) : FEx Try.prog hdF (hdU m f e0) (seqs (headC 3 hdX_) hdY) (hdT m f ii x) .norm z := by
  have hIX : (0 + ((avInt (f (0 + ii) 0)).tmod 8).toNat) = j := by rw [Nat.zero_add]; exact hjt
  have hii1 : (0 + ii).blt m = true := by rw [Nat.zero_add]; simpa [Nat.blt_eq] using hin
  have hii2 : (ii.blt m && decide (0 ≤ Int.ofNat ii)) = true := by rw [Bool.and_eq_true]; exact ⟨by simpa [Nat.blt_eq] using hin, decide_eq_true (by simp)⟩
  have hjb : (0 + ((avInt (f (0 + ii) 0)).tmod 8).toNat).blt 8 = true := by rw [hIX]; simpa [Nat.blt_eq] using hj8
  have hjb2 : (((avInt (f (0 + ii) 0)).tmod 8).toNat.blt 8 && decide (0 ≤ (avInt (f (0 + ii) 0)).tmod 8)) = true := by rw [Bool.and_eq_true, hjt]; exact ⟨by simpa [Nat.blt_eq] using hj8, decide_eq_true hr0⟩
  have hrr : (avInt (f (0 + ii) 0)).tmod 8 = (j : Int) := by rw [← hjt]; exact (Int.toNat_of_nonneg hr0).symm
  have hjt' : ((avInt (f ii 0)).tmod 8).toNat = j := by rw [← hjt, Nat.zero_add]
  have hjw : IntKind.i64.wrap ((avInt (f (0 + ii) 0)).tmod 8) = Int.ofNat j := by rw [hrr, wrap_nat64 _ (by omega) (by omega)]; rfl
  have hw1 : decide (IntKind.i64.wrap ((avInt (f (0 + ii) 0)).tmod 8) ≥ 16) = false := decide_eq_false (by rw [hjw]; simp; omega)
  have hw2 : decide (IntKind.i64.wrap ((avInt (f (0 + ii) 0)).tmod 8) < 0) = false := decide_eq_false (by rw [hjw]; simp)
  have q0 : lrow fam0 1 (hdT m f ii x).M j (0 + ((avInt (f (0 + ii) 0)).tmod 8).toNat) 0 = AV.symb i := by rw [hIX, lrow_j (mb := hdMb j ⟨0, i, a, e, p⟩) (by show hdMb j (x.O j) = _; rw [ho])]; rfl
  have q1 : lrow fam0 1 (hdT m f ii x).M j (0 + ((avInt (f (0 + ii) 0)).tmod 8).toNat) 1 = AV.sym .u64 a := by rw [hIX, lrow_j (mb := hdMb j ⟨0, i, a, e, p⟩) (by show hdMb j (x.O j) = _; rw [ho])]; rfl
  have q2 : lrow fam0 1 (hdT m f ii x).M j (0 + ((avInt (f (0 + ii) 0)).tmod 8).toNat) 2 = AV.nilp := by rw [hIX, lrow_j (mb := hdMb j ⟨0, i, a, e, p⟩) (by show hdMb j (x.O j) = _; rw [ho])]; rfl
  have q3 : lrow fam0 1 (hdT m f ii x).M j (0 + ((avInt (f (0 + ii) 0)).tmod 8).toNat) 3 = AV.nilp := by rw [hIX, lrow_j (mb := hdMb j ⟨0, i, a, e, p⟩) (by show hdMb j (x.O j) = _; rw [ho])]; rfl
  have q4 : lrow fam0 1 (hdT m f ii x).M j (0 + ((avInt (f (0 + ii) 0)).tmod 8).toNat) 4 = AV.nilp := by rw [hIX, lrow_j (mb := hdMb j ⟨0, i, a, e, p⟩) (by show hdMb j (x.O j) = _; rw [ho])]; rfl
  have ha1 : avBool (lrow fam0 1 (hdT m f ii x).M j (0 + ((avInt (f (0 + ii) 0)).tmod 8).toNat) 0) = false := by rw [q0]; exact hi
  have u1 : (upd (lrow fam0 1 (hdT m f ii x).M j) (0 + ((avInt (f (0 + ii) 0)).tmod 8).toNat) 2 [.ptr 2148162586431843102196155738543111943642171342715761268098409960313087803890567676642145998088874603130269386458711296599798824608237289191246846231508 0 0]) (0 + ((avInt (f (0 + ii) 0)).tmod 8).toNat) 2 = AV.ptr 2148162586431843102196155738543111943642171342715761268098409960313087803890567676642145998088874603130269386458711296599798824608237289191246846231508 0 0 := by simp [upd, nth]
  have u2 : (upd (lrow fam0 1 (hdT m f ii x).M j) (0 + ((avInt (f (0 + ii) 0)).tmod 8).toNat) 2 [.ptr 2148162586431843102196155738543111943642171342715761268098409960313087803890567676642145998088874603130269386458711296599798824608237289191246846231508 0 0]) (0 + ((avInt (f (0 + ii) 0)).tmod 8).toNat) 3 = AV.nilp := by simp only [upd]; exact q3
  have u3 : (upd (lrow fam0 1 (hdT m f ii x).M j) (0 + ((avInt (f (0 + ii) 0)).tmod 8).toNat) 2 [.ptr 2148162586431843102196155738543111943642171342715761268098409960313087803890567676642145998088874603130269386458711296599798824608237289191246846231508 0 0]) (0 + ((avInt (f (0 + ii) 0)).tmod 8).toNat) 4 = AV.nilp := by simp only [upd]; exact q4
  have r0 : lrow fam0 1 (hdT m f ii x).M j j 0 = AV.symb i := by rw [lrow_j (mb := hdMb j ⟨0, i, a, e, p⟩) (by show hdMb j (x.O j) = _; rw [ho])]; rfl
  have r1 : lrow fam0 1 (hdT m f ii x).M j j 1 = AV.sym .u64 a := by rw [lrow_j (mb := hdMb j ⟨0, i, a, e, p⟩) (by show hdMb j (x.O j) = _; rw [ho])]; rfl
  have r2 : lrow fam0 1 (hdT m f ii x).M j j 2 = AV.nilp := by rw [lrow_j (mb := hdMb j ⟨0, i, a, e, p⟩) (by show hdMb j (x.O j) = _; rw [ho])]; rfl
  have r3 : lrow fam0 1 (hdT m f ii x).M j j 3 = AV.nilp := by rw [lrow_j (mb := hdMb j ⟨0, i, a, e, p⟩) (by show hdMb j (x.O j) = _; rw [ho])]; rfl
  have r4 : lrow fam0 1 (hdT m f ii x).M j j 4 = AV.nilp := by rw [lrow_j (mb := hdMb j ⟨0, i, a, e, p⟩) (by show hdMb j (x.O j) = _; rw [ho])]; rfl
  have c0 : (upd (lrow fam0 1 (hdT m f ii x).M j) (0 + ((avInt (f (0 + ii) 0)).tmod 8).toNat) 2 [.ptr 2148162586431843102196155738543111943642171342715761268098409960313087803890567676642145998088874603130269386458711296599798824608237289191246846231508 0 0]) j 0 = AV.symb i := by simp [upd, nth, hjt', r0]
  have c1 : (upd (lrow fam0 1 (hdT m f ii x).M j) (0 + ((avInt (f (0 + ii) 0)).tmod 8).toNat) 2 [.ptr 2148162586431843102196155738543111943642171342715761268098409960313087803890567676642145998088874603130269386458711296599798824608237289191246846231508 0 0]) j 1 = AV.sym .u64 a := by simp [upd, nth, hjt', r1]
  have c2 : (upd (lrow fam0 1 (hdT m f ii x).M j) (0 + ((avInt (f (0 + ii) 0)).tmod 8).toNat) 2 [.ptr 2148162586431843102196155738543111943642171342715761268098409960313087803890567676642145998088874603130269386458711296599798824608237289191246846231508 0 0]) j 2 = AV.ptr 2148162586431843102196155738543111943642171342715761268098409960313087803890567676642145998088874603130269386458711296599798824608237289191246846231508 0 0 := by simp [upd, nth, hjt']
  have c3 : (upd (lrow fam0 1 (hdT m f ii x).M j) (0 + ((avInt (f (0 + ii) 0)).tmod 8).toNat) 2 [.ptr 2148162586431843102196155738543111943642171342715761268098409960313087803890567676642145998088874603130269386458711296599798824608237289191246846231508 0 0]) j 3 = AV.nilp := by simp [upd, nth, hjt', r3]
  have c4 : (upd (lrow fam0 1 (hdT m f ii x).M j) (0 + ((avInt (f (0 + ii) 0)).tmod 8).toNat) 2 [.ptr 2148162586431843102196155738543111943642171342715761268098409960313087803890567676642145998088874603130269386458711296599798824608237289191246846231508 0 0]) j 4 = AV.nilp := by simp [upd, nth, hjt', r4]
  have hrow : ∀ k0, k0 < 8 → rowV (CM.mk 5 fam0 [(5, Src.nm 5), (900, Src.nm 2148162586431843102196155738543111943642171342715761268098409960313087803890567676642145998088874603130269386458711296599798824608237289191246846231508)]) hdSh 0 ((upd (lrow fam0 1 (hdT m f ii x).M j) (0 + ((avInt (f (0 + ii) 0)).tmod 8).toNat) 2 [.ptr 2148162586431843102196155738543111943642171342715761268098409960313087803890567676642145998088874603130269386458711296599798824608237289191246846231508 0 0]) k0) (lrow fam0 1 (hdT1 m f ii ⟨mLoad (mLoad x.S 1 0 0) 1 0 0, fun k => if k = j then ⟨1, false, a, hdE x.S, 0⟩ else x.O k⟩).M j k0) := hd_rows (y := ⟨mLoad (mLoad x.S 1 0 0) 1 0 0, fun k => if k = j then ⟨1, false, a, hdE x.S, 0⟩ else x.O k⟩) (x := x) (Nat.le_refl _) (fun k0 hk0 => if_neg hk0) (fun k0 hk0 cc => by simp [upd, hjt', hk0]; rfl)
    (by show rowV _ hdSh 0 _ (fun cc => mrow 1 900 (hdMb j (if j = j then ⟨1, false, a, hdE x.S, 0⟩ else _)) cc); rw [if_pos rfl]; exact ⟨by rw [c0, hi]; rfl, by rw [c1]; rfl, by rw [c2]; exact valV_ptr (n := 900) rfl, by rw [c3]; exact valV_nilp, by rw [c4]; exact valV_nilp, trivial⟩)
  refine fex_pre Ehd_ok hdFam hdSOk j true true (hC_1 m f e0 ii x ⟨mLoad (mLoad x.S 1 0 0) 1 0 0, fun k => if k = j then ⟨1, false, a, hdE x.S, 0⟩ else x.O k⟩ j i a e p) (cj ⟨rfl, rfl, rfl, rfl, rfl, rfl, rfl, rfl, rfl, rfl, rfl, hjw, rfl, Nat.le_refl _, hrow, rfl, rfl, rfl, rfl, rfl, rfl, rfl, rfl, (fun _ => rfl), rfl, Nat.le_refl _, .inl ⟨rfl, rfl⟩, hT1, hT2, u1, hjb, u2, hjb, u3, hjb, hjb, hw1, hw2, ha1, hjb, hbt, q4, hjb, q3, hjb, q2, hjb, hii1, hii2, hii1, hii2, hjb2, hii1, hii2, trivial⟩) (hdG _ _ _ _) (hdG1 _ _ _ _) (fun _ => hj8) (by show hdMb j (x.O j) = _; rw [ho]) (by show hdMb j (if j = j then _ else _) = _; rw [if_pos rfl]) (.inl ⟨rfl, hj8⟩) (fun k hk hne => ⟨hk, by show hdMb k (if k = j then _ else x.O k) = hdMb k (x.O k); rw [if_neg hne]⟩) hrest
theorem hD_1 (m : Nat) (f : Nat → Nat → AV) (e0 : Int) (ii : Nat) (x y : HX) (j : Nat) (i : Bool) (a e p : Int) : roundB Ehd 3000 hdXs (h0F hdF (hdU m f e0)) [(5, Src.nm 5)] (locSt hdF (hdT m f ii x) true (hdMb j (HO.mk 1 i a e p)) j []) [Hint.node [(21, [Hint.a (AV.ptr 900 0 0), Hint.a AV.nilp, Hint.a AV.nilp, Hint.a (AV.ptr 900 0 0)])], Hint.b false, Hint.b false] (locSt hdF (hdT1 m f ii y) true (hdMb j (HO.mk 0 true (hdE x.S) 0 0)) j []) =
 some (Ex.norm, [(0 : Nat) = 0,
 m = m,
 (none : Option Nat) = none,
 (0 : Nat) = 0,
 (0 : Nat) = 0,
 (0 : Nat) = 0,
 (8 : Nat) = 8,
 some 8 = some 8,
 Int.ofNat ii = Int.ofNat ii,
 mget (memPut x.S.M 8 (Int.ofNat j) 3 (IntKind.u64.wrap ↑(BitVec.ofInt 64 (IntKind.u64.wrap (e * 2)) ||| BitVec.ofInt 64 1).toNat)) (key 1 0 0) = hdE y.S,
 false = false,
 (8 : Nat) ≤ (8 : Nat),
 ∀ (i : Nat), i < 8 → rowV (CM.mk 5 fam0 [(5, Src.nm 5)]) hdF.sh 0 (upd (upd (upd (lrow fam0 1 (hdT m f ii x).M j) (0 + ((avInt (f (0 + ii) 0)).tmod 8).toNat) 2 (ofVal (Value.pointer none)).cells) (0 + ((avInt (f (0 + ii) 0)).tmod 8).toNat) 0 (ofVal (Value.bool true)).cells) (0 + ((avInt (f (0 + ii) 0)).tmod 8).toNat) 1 (oneOrAll [AV.sym IntKind.u64 (mget (memPut x.S.M 8 (Int.ofNat j) 3 (IntKind.u64.wrap ↑(BitVec.ofInt 64 (IntKind.u64.wrap (e * 2)) ||| BitVec.ofInt 64 1).toNat)) (key 1 0 0))]).cells i) (lrow fam0 1 (hdT1 m f ii y).M j i),
 IntKind.i64.wrap (IntKind.i64.wrap (IntKind.i64.wrap (x.S.st + 1) + 1) + 1) = y.S.st,
 1 = y.S.L.c,
 1 = y.S.L.k,
 0 = y.S.L.a,
 0 = y.S.L.f,
 mget (memPut x.S.M 8 (Int.ofNat j) 3 (IntKind.u64.wrap ↑(BitVec.ofInt 64 (IntKind.u64.wrap (e * 2)) ||| BitVec.ofInt 64 1).toNat)) (key 1 0 0) = y.S.L.w,
 mget (memPut x.S.M 8 (Int.ofNat j) 3 (IntKind.u64.wrap ↑(BitVec.ofInt 64 (IntKind.u64.wrap (e * 2)) ||| BitVec.ofInt 64 1).toNat)) (key 1 0 0) = y.S.L.i,
 false = y.S.L.d,
 ∀ (k : List Int), memPut x.S.M 8 (Int.ofNat j) 3 (IntKind.u64.wrap ↑(BitVec.ofInt 64 (IntKind.u64.wrap (e * 2)) ||| BitVec.ofInt 64 1).toNat) k = y.S.M k,
 true = true,
 m ≤ m,
 f = f ∧ plainSh [CK.int IntKind.u8] = true ∨ ∀ (i : Nat), i < m → rowOb [CK.int IntKind.u8] 0 (f i) (f i),
 decide (mget (memPut x.S.M 8 (Int.ofNat j) 3 (IntKind.u64.wrap ↑(BitVec.ofInt 64 (IntKind.u64.wrap (e * 2)) ||| BitVec.ofInt 64 1).toNat)) (key 1 0 0) > IntKind.u64.wrap (hdE x.S + 1)) = false,
 decide (mget (memPut x.S.M 8 (Int.ofNat j) 3 (IntKind.u64.wrap ↑(BitVec.ofInt 64 (IntKind.u64.wrap (e * 2)) ||| BitVec.ofInt 64 1).toNat)) (key 1 0 0) < hdE x.S) = false,
 (0 + ((avInt (f (0 + ii) 0)).tmod 8).toNat).blt 8 = true,
 (0 + ((avInt (f (0 + ii) 0)).tmod 8).toNat).blt 8 = true,
 (0 + ((avInt (f (0 + ii) 0)).tmod 8).toNat).blt 8 = true,
 (0 : Int) ≤ (8 : Int),
 lrow fam0 1 (hdT m f ii x).M j (0 + ((avInt (f (0 + ii) 0)).tmod 8).toNat) 2 = AV.ptr 900 0 0,
 (0 + ((avInt (f (0 + ii) 0)).tmod 8).toNat).blt 8 = true,
 lrow fam0 1 (hdT m f ii x).M j (0 + ((avInt (f (0 + ii) 0)).tmod 8).toNat) 3 = AV.nilp,
 (0 + ((avInt (f (0 + ii) 0)).tmod 8).toNat).blt 8 = true,
 lrow fam0 1 (hdT m f ii x).M j (0 + ((avInt (f (0 + ii) 0)).tmod 8).toNat) 4 = AV.nilp,
 (0 + ((avInt (f (0 + ii) 0)).tmod 8).toNat).blt 8 = true,
 lrow fam0 1 (hdT m f ii x).M j (0 + ((avInt (f (0 + ii) 0)).tmod 8).toNat) 2 = AV.ptr 900 0 0,
 (0 + ((avInt (f (0 + ii) 0)).tmod 8).toNat).blt 8 = true,
 (0 + ii).blt m = true,
 (ii.blt m && decide (0 ≤ Int.ofNat ii)) = true,
 (0 + ii).blt m = true,
 (ii.blt m && decide (0 ≤ Int.ofNat ii)) = true,
 (((avInt (f (0 + ii) 0)).tmod 8).toNat.blt 8 && decide (0 ≤ (avInt (f (0 + ii) 0)).tmod 8)) = true,
 (0 + ii).blt m = true,
 (ii.blt m && decide (0 ≤ Int.ofNat ii)) = true]) := by kernel_rfl
theorem hD_ex {m : Nat} {f : Nat → Nat → AV} {e0 : Int} {ii : Nat} {x : HX} {j : Nat} {i : Bool} {a e p : Int} (hin : ii < m) (hj8 : j < 8) (hr0 : 0 ≤ (avInt (f (0 + ii) 0)).tmod 8) (hjt : ((avInt (f (0 + ii) 0)).tmod 8).toNat = j) (ho : x.O j = ⟨1, i, a, e, p⟩) (hst : mget (memPut x.S.M 8 (Int.ofNat j) 3 (IntKind.u64.wrap ↑(BitVec.ofInt 64 (IntKind.u64.wrap (e * 2)) ||| BitVec.ofInt 64 1).toNat)) (key 1 0 0) = hdE x.S) {z : FSt}
    (hT1 : decide (hdE (mLoad (mLoad (mStore x.S 8 (Int.ofNat j) 3 (IntKind.u64.wrap ↑(BitVec.ofInt 64 (IntKind.u64.wrap (e * 2)) ||| BitVec.ofInt 64 1).toNat)) 1 0 0) 1 0 0) > IntKind.u64.wrap (hdE x.S + 1)) = false) (hT2 : decide (hdE (mLoad (mLoad (mStore x.S 8 (Int.ofNat j) 3 (IntKind.u64.wrap ↑(BitVec.ofInt 64 (IntKind.u64.wrap (e * 2)) ||| BitVec.ofInt 64 1).toNat)) 1 0 0) 1 0 0) < hdE x.S) = false)
    (hrest : FEx Try.prog hdF (hdU m f e0) hdY (hdT1 m f ii ⟨mLoad (mLoad (mStore x.S 8 (Int.ofNat j) 3 (IntKind.u64.wrap ↑(BitVec.ofInt 64 (IntKind.u64.wrap (e * 2)) ||| BitVec.ofInt 64 1).toNat)) 1 0 0) 1 0 0, fun k => if k = j then ⟨0, true, hdE x.S, 0, 0⟩ else x.O k⟩) .norm z) : FEx Try.prog hdF (hdU m f e0) (seqs (headC 3 hdX_) hdY) (hdT m f ii x) .norm z := by
  have hIX : (0 + ((avInt (f (0 + ii) 0)).tmod 8).toNat) = j := by rw [Nat.zero_add]; exact hjt
  have hii1 : (0 + ii).blt m = true := by rw [Nat.zero_add]; simpa [Nat.blt_eq] using hin
  have hii2 : (ii.blt m && decide (0 ≤ Int.ofNat ii)) = true := by rw [Bool.and_eq_true]; exact ⟨by simpa [Nat.blt_eq] using hin, decide_eq_true (by simp)⟩
  have hjb : (0 + ((avInt (f (0 + ii) 0)).tmod 8).toNat).blt 8 = true := by rw [hIX]; simpa [Nat.blt_eq] using hj8
  have hjb2 : (((avInt (f (0 + ii) 0)).tmod 8).toNat.blt 8 && decide (0 ≤ (avInt (f (0 + ii) 0)).tmod 8)) = true := by rw [Bool.and_eq_true, hjt]; exact ⟨by simpa [Nat.blt_eq] using hj8, decide_eq_true hr0⟩
  have hrr : (avInt (f (0 + ii) 0)).tmod 8 = (j : Int) := by rw [← hjt]; exact (Int.toNat_of_nonneg hr0).symm
  have hjt' : ((avInt (f ii 0)).tmod 8).toNat = j := by rw [← hjt, Nat.zero_add]
  have hjw : IntKind.i64.wrap ((avInt (f (0 + ii) 0)).tmod 8) = Int.ofNat j := by rw [hrr, wrap_nat64 _ (by omega) (by omega)]; rfl
  have hw1 : decide (IntKind.i64.wrap ((avInt (f (0 + ii) 0)).tmod 8) ≥ 16) = false := decide_eq_false (by rw [hjw]; simp; omega)
  have hw2 : decide (IntKind.i64.wrap ((avInt (f (0 + ii) 0)).tmod 8) < 0) = false := decide_eq_false (by rw [hjw]; simp)
  have q0 : lrow fam0 1 (hdT m f ii x).M j (0 + ((avInt (f (0 + ii) 0)).tmod 8).toNat) 0 = AV.symb i := by rw [hIX, lrow_j (mb := hdMb j ⟨1, i, a, e, p⟩) (by show hdMb j (x.O j) = _; rw [ho])]; rfl
  have q1 : lrow fam0 1 (hdT m f ii x).M j (0 + ((avInt (f (0 + ii) 0)).tmod 8).toNat) 1 = AV.sym .u64 a := by rw [hIX, lrow_j (mb := hdMb j ⟨1, i, a, e, p⟩) (by show hdMb j (x.O j) = _; rw [ho])]; rfl
  have q2 : lrow fam0 1 (hdT m f ii x).M j (0 + ((avInt (f (0 + ii) 0)).tmod 8).toNat) 2 = AV.ptr 900 0 0 := by rw [hIX, lrow_j (mb := hdMb j ⟨1, i, a, e, p⟩) (by show hdMb j (x.O j) = _; rw [ho])]; rfl
  have q3 : lrow fam0 1 (hdT m f ii x).M j (0 + ((avInt (f (0 + ii) 0)).tmod 8).toNat) 3 = AV.nilp := by rw [hIX, lrow_j (mb := hdMb j ⟨1, i, a, e, p⟩) (by show hdMb j (x.O j) = _; rw [ho])]; rfl
  have q4 : lrow fam0 1 (hdT m f ii x).M j (0 + ((avInt (f (0 + ii) 0)).tmod 8).toNat) 4 = AV.nilp := by rw [hIX, lrow_j (mb := hdMb j ⟨1, i, a, e, p⟩) (by show hdMb j (x.O j) = _; rw [ho])]; rfl
  have r0 : lrow fam0 1 (hdT m f ii x).M j j 0 = AV.symb i := by rw [lrow_j (mb := hdMb j ⟨1, i, a, e, p⟩) (by show hdMb j (x.O j) = _; rw [ho])]; rfl
  have r1 : lrow fam0 1 (hdT m f ii x).M j j 1 = AV.sym .u64 a := by rw [lrow_j (mb := hdMb j ⟨1, i, a, e, p⟩) (by show hdMb j (x.O j) = _; rw [ho])]; rfl
  have r2 : lrow fam0 1 (hdT m f ii x).M j j 2 = AV.ptr 900 0 0 := by rw [lrow_j (mb := hdMb j ⟨1, i, a, e, p⟩) (by show hdMb j (x.O j) = _; rw [ho])]; rfl
  have r3 : lrow fam0 1 (hdT m f ii x).M j j 3 = AV.nilp := by rw [lrow_j (mb := hdMb j ⟨1, i, a, e, p⟩) (by show hdMb j (x.O j) = _; rw [ho])]; rfl
  have r4 : lrow fam0 1 (hdT m f ii x).M j j 4 = AV.nilp := by rw [lrow_j (mb := hdMb j ⟨1, i, a, e, p⟩) (by show hdMb j (x.O j) = _; rw [ho])]; rfl
  have c0 : (upd (upd (upd (lrow fam0 1 (hdT m f ii x).M j) (0 + ((avInt (f (0 + ii) 0)).tmod 8).toNat) 2 [.nilp]) (0 + ((avInt (f (0 + ii) 0)).tmod 8).toNat) 0 [.bool true]) (0 + ((avInt (f (0 + ii) 0)).tmod 8).toNat) 1 [.sym .u64 (mget (memPut x.S.M 8 (Int.ofNat j) 3 (IntKind.u64.wrap ↑(BitVec.ofInt 64 (IntKind.u64.wrap (e * 2)) ||| BitVec.ofInt 64 1).toNat)) (key 1 0 0))]) j 0 = AV.bool true := by simp [upd, nth, hjt']
  have c1 : (upd (upd (upd (lrow fam0 1 (hdT m f ii x).M j) (0 + ((avInt (f (0 + ii) 0)).tmod 8).toNat) 2 [.nilp]) (0 + ((avInt (f (0 + ii) 0)).tmod 8).toNat) 0 [.bool true]) (0 + ((avInt (f (0 + ii) 0)).tmod 8).toNat) 1 [.sym .u64 (mget (memPut x.S.M 8 (Int.ofNat j) 3 (IntKind.u64.wrap ↑(BitVec.ofInt 64 (IntKind.u64.wrap (e * 2)) ||| BitVec.ofInt 64 1).toNat)) (key 1 0 0))]) j 1 = AV.sym .u64 (mget (memPut x.S.M 8 (Int.ofNat j) 3 (IntKind.u64.wrap ↑(BitVec.ofInt 64 (IntKind.u64.wrap (e * 2)) ||| BitVec.ofInt 64 1).toNat)) (key 1 0 0)) := by simp [upd, nth, hjt']
  have c2 : (upd (upd (upd (lrow fam0 1 (hdT m f ii x).M j) (0 + ((avInt (f (0 + ii) 0)).tmod 8).toNat) 2 [.nilp]) (0 + ((avInt (f (0 + ii) 0)).tmod 8).toNat) 0 [.bool true]) (0 + ((avInt (f (0 + ii) 0)).tmod 8).toNat) 1 [.sym .u64 (mget (memPut x.S.M 8 (Int.ofNat j) 3 (IntKind.u64.wrap ↑(BitVec.ofInt 64 (IntKind.u64.wrap (e * 2)) ||| BitVec.ofInt 64 1).toNat)) (key 1 0 0))]) j 2 = AV.nilp := by simp [upd, nth, hjt']
  have c3 : (upd (upd (upd (lrow fam0 1 (hdT m f ii x).M j) (0 + ((avInt (f (0 + ii) 0)).tmod 8).toNat) 2 [.nilp]) (0 + ((avInt (f (0 + ii) 0)).tmod 8).toNat) 0 [.bool true]) (0 + ((avInt (f (0 + ii) 0)).tmod 8).toNat) 1 [.sym .u64 (mget (memPut x.S.M 8 (Int.ofNat j) 3 (IntKind.u64.wrap ↑(BitVec.ofInt 64 (IntKind.u64.wrap (e * 2)) ||| BitVec.ofInt 64 1).toNat)) (key 1 0 0))]) j 3 = AV.nilp := by simp [upd, nth, hjt', r3]
  have c4 : (upd (upd (upd (lrow fam0 1 (hdT m f ii x).M j) (0 + ((avInt (f (0 + ii) 0)).tmod 8).toNat) 2 [.nilp]) (0 + ((avInt (f (0 + ii) 0)).tmod 8).toNat) 0 [.bool true]) (0 + ((avInt (f (0 + ii) 0)).tmod 8).toNat) 1 [.sym .u64 (mget (memPut x.S.M 8 (Int.ofNat j) 3 (IntKind.u64.wrap ↑(BitVec.ofInt 64 (IntKind.u64.wrap (e * 2)) ||| BitVec.ofInt 64 1).toNat)) (key 1 0 0))]) j 4 = AV.nilp := by simp [upd, nth, hjt', r4]
  have hrow : ∀ k0, k0 < 8 → rowV (CM.mk 5 fam0 [(5, Src.nm 5)]) hdSh 0 ((upd (upd (upd (lrow fam0 1 (hdT m f ii x).M j) (0 + ((avInt (f (0 + ii) 0)).tmod 8).toNat) 2 [.nilp]) (0 + ((avInt (f (0 + ii) 0)).tmod 8).toNat) 0 [.bool true]) (0 + ((avInt (f (0 + ii) 0)).tmod 8).toNat) 1 [.sym .u64 (mget (memPut x.S.M 8 (Int.ofNat j) 3 (IntKind.u64.wrap ↑(BitVec.ofInt 64 (IntKind.u64.wrap (e * 2)) ||| BitVec.ofInt 64 1).toNat)) (key 1 0 0))]) k0) (lrow fam0 1 (hdT1 m f ii ⟨mLoad (mLoad (mStore x.S 8 (Int.ofNat j) 3 (IntKind.u64.wrap ↑(BitVec.ofInt 64 (IntKind.u64.wrap (e * 2)) ||| BitVec.ofInt 64 1).toNat)) 1 0 0) 1 0 0, fun k => if k = j then ⟨0, true, hdE x.S, 0, 0⟩ else x.O k⟩).M j k0) := hd_rows (y := ⟨mLoad (mLoad (mStore x.S 8 (Int.ofNat j) 3 (IntKind.u64.wrap ↑(BitVec.ofInt 64 (IntKind.u64.wrap (e * 2)) ||| BitVec.ofInt 64 1).toNat)) 1 0 0) 1 0 0, fun k => if k = j then ⟨0, true, hdE x.S, 0, 0⟩ else x.O k⟩) (x := x) (Nat.le_refl _) (fun k0 hk0 => if_neg hk0) (fun k0 hk0 cc => by simp [upd, hjt', hk0]; rfl)
    (by show rowV _ hdSh 0 _ (fun cc => mrow 1 900 (hdMb j (if j = j then ⟨0, true, hdE x.S, 0, 0⟩ else _)) cc); rw [if_pos rfl]; exact ⟨by rw [c0]; rfl, by rw [c1]; show AV.sym .u64 (hdE x.S) = .sym .u64 _; rw [show avInt (AV.sym .u64 (mget (memPut x.S.M 8 (Int.ofNat j) 3 (IntKind.u64.wrap ↑(BitVec.ofInt 64 (IntKind.u64.wrap (e * 2)) ||| BitVec.ofInt 64 1).toNat)) (key 1 0 0))) = mget (memPut x.S.M 8 (Int.ofNat j) 3 (IntKind.u64.wrap ↑(BitVec.ofInt 64 (IntKind.u64.wrap (e * 2)) ||| BitVec.ofInt 64 1).toNat)) (key 1 0 0) from rfl, hst], by rw [c2]; exact valV_nilp, by rw [c3]; exact valV_nilp, by rw [c4]; exact valV_nilp, trivial⟩)
  refine fex_pre Ehd_ok hdFam hdSOk j true true (hD_1 m f e0 ii x ⟨mLoad (mLoad (mStore x.S 8 (Int.ofNat j) 3 (hdVe e)) 1 0 0) 1 0 0, fun k => if k = j then ⟨0, true, hdE x.S, 0, 0⟩ else x.O k⟩ j i a e p) (cj ⟨rfl, rfl, rfl, rfl, rfl, rfl, rfl, rfl, rfl, rfl, rfl, Nat.le_refl _, hrow, rfl, rfl, rfl, rfl, rfl, rfl, rfl, rfl, (fun _ => rfl), rfl, Nat.le_refl _, .inl ⟨rfl, rfl⟩, hT1, hT2, hjb, hjb, hjb, (by decide), q2, hjb, q3, hjb, q4, hjb, q2, hjb, hii1, hii2, hii1, hii2, hjb2, hii1, hii2, trivial⟩) (hdG _ _ _ _) (hdG1 _ _ _ _) (fun _ => hj8) (by show hdMb j (x.O j) = _; rw [ho]) (by show hdMb j (if j = j then _ else _) = _; rw [if_pos rfl]) (.inl ⟨rfl, hj8⟩) (fun k hk hne => ⟨hk, by show hdMb k (if k = j then _ else x.O k) = hdMb k (x.O k); rw [if_neg hne]⟩) hrest
theorem hE_1 (m : Nat) (f : Nat → Nat → AV) (e0 : Int) (ii : Nat) (x y : HX) (j : Nat) (i : Bool) (a e p : Int) : roundB Ehd 3000 hdXs (h0F hdF (hdU m f e0)) [(5, Src.nm 5), (900, Src.nm 900)] (locSt hdF (hdT m f ii x) true (hdMb j (HO.mk 2 i a e p)) j []) [Hint.node [(21, [Hint.a AV.nilp, Hint.a AV.nilp, Hint.a (AV.ptr 900 0 0), Hint.a (AV.ptr 900 0 0), Hint.a (AV.ptr 900 0 0), Hint.b false])], Hint.b false, Hint.b false] (locSt hdF (hdT1 m f ii y) true (hdMb j (HO.mk 3 i a e 0)) j []) =
 some (Ex.norm, [(0 : Nat) = 0,
 m = m,
 (none : Option Nat) = none,
 (0 : Nat) = 0,
 (0 : Nat) = 0,
 (0 : Nat) = 0,
 (8 : Nat) = 8,
 some 8 = some 8,
 Int.ofNat ii = Int.ofNat ii,
 mget x.S.M (key 1 0 0) = hdE y.S,
 e = e,
 (0 : Int) = 0,
 IntKind.i64.wrap (IntKind.i64.wrap (if 4 < mget x.S.M (key 5 0 0) then 4 else mget x.S.M (key 5 0 0)) * 4) = 8,
 false = false,
 (8 : Nat) ≤ (8 : Nat),
 ∀ (i : Nat), i < 8 → rowV (CM.mk 5 fam0 [(5, Src.nm 5), (900, Src.nm 900)]) hdF.sh 0 (lrow fam0 1 (hdT m f ii x).M j i) (lrow fam0 1 (hdT1 m f ii y).M j i),
 IntKind.i64.wrap (IntKind.i64.wrap (x.S.st + 1) + 1) = y.S.st,
 1 = y.S.L.c,
 1 = y.S.L.k,
 0 = y.S.L.a,
 0 = y.S.L.f,
 mget x.S.M (key 1 0 0) = y.S.L.w,
 mget x.S.M (key 1 0 0) = y.S.L.i,
 false = y.S.L.d,
 ∀ (k : List Int), x.S.M k = y.S.M k,
 true = true,
 m ≤ m,
 f = f ∧ plainSh [CK.int IntKind.u8] = true ∨ ∀ (i : Nat), i < m → rowOb [CK.int IntKind.u8] 0 (f i) (f i),
 decide (mget x.S.M (key 1 0 0) > IntKind.u64.wrap (hdE x.S + 1)) = false,
 decide (mget x.S.M (key 1 0 0) < hdE x.S) = false,
 decide (0 ≥ IntKind.i64.wrap (IntKind.i64.wrap (if 4 < mget x.S.M (key 5 0 0) then 4 else mget x.S.M (key 5 0 0)) * 4)) = false,
 lrow fam0 1 (hdT m f ii x).M j (0 + ((avInt (f (0 + ii) 0)).tmod 8).toNat) 4 = AV.ptr 900 0 0,
 (0 + ((avInt (f (0 + ii) 0)).tmod 8).toNat).blt 8 = true,
 lrow fam0 1 (hdT m f ii x).M j (0 + ((avInt (f (0 + ii) 0)).tmod 8).toNat) 4 = AV.ptr 900 0 0,
 (0 + ((avInt (f (0 + ii) 0)).tmod 8).toNat).blt 8 = true,
 lrow fam0 1 (hdT m f ii x).M j (0 + ((avInt (f (0 + ii) 0)).tmod 8).toNat) 4 = AV.ptr 900 0 0,
 (0 + ((avInt (f (0 + ii) 0)).tmod 8).toNat).blt 8 = true,
 lrow fam0 1 (hdT m f ii x).M j (0 + ((avInt (f (0 + ii) 0)).tmod 8).toNat) 3 = AV.nilp,
 (0 + ((avInt (f (0 + ii) 0)).tmod 8).toNat).blt 8 = true,
 lrow fam0 1 (hdT m f ii x).M j (0 + ((avInt (f (0 + ii) 0)).tmod 8).toNat) 2 = AV.nilp,
 (0 + ((avInt (f (0 + ii) 0)).tmod 8).toNat).blt 8 = true,
 (0 + ii).blt m = true,
 (ii.blt m && decide (0 ≤ Int.ofNat ii)) = true,
 (0 + ii).blt m = true,
 (ii.blt m && decide (0 ≤ Int.ofNat ii)) = true,
 (((avInt (f (0 + ii) 0)).tmod 8).toNat.blt 8 && decide (0 ≤ (avInt (f (0 + ii) 0)).tmod 8)) = true,
 (0 + ii).blt m = true,
 (ii.blt m && decide (0 ≤ Int.ofNat ii)) = true]) := by kernel_rfl
theorem hE_ex {m : Nat} {f : Nat → Nat → AV} {e0 : Int} {ii : Nat} {x : HX} {j : Nat} {i : Bool} {a e p : Int} (hin : ii < m) (hj8 : j < 8) (hr0 : 0 ≤ (avInt (f (0 + ii) 0)).tmod 8) (hjt : ((avInt (f (0 + ii) 0)).tmod 8).toNat = j) (ho : x.O j = ⟨2, i, a, e, p⟩) (hx1 : IntKind.i64.wrap (IntKind.i64.wrap (if 4 < mget x.S.M (key 5 0 0) then 4 else mget x.S.M (key 5 0 0)) * 4) = 8) {z : FSt}
    (hT1 : decide (hdE (mLoad (mLoad x.S 5 0 0) 1 0 0) > IntKind.u64.wrap (hdE x.S + 1)) = false) (hT2 : decide (hdE (mLoad (mLoad x.S 5 0 0) 1 0 0) < hdE x.S) = false)
    (hrest : FEx Try.prog hdF (hdU m f e0) hdY (hdT1 m f ii ⟨mLoad (mLoad x.S 5 0 0) 1 0 0, fun k => if k = j then ⟨3, i, a, e, 0⟩ else x.O k⟩) .norm z) : FEx Try.prog hdF (hdU m f e0) (seqs (headC 3 hdX_) hdY) (hdT m f ii x) .norm z := by
  have hIX : (0 + ((avInt (f (0 + ii) 0)).tmod 8).toNat) = j := by rw [Nat.zero_add]; exact hjt
  have hii1 : (0 + ii).blt m = true := by rw [Nat.zero_add]; simpa [Nat.blt_eq] using hin
  have hii2 : (ii.blt m && decide (0 ≤ Int.ofNat ii)) = true := by rw [Bool.and_eq_true]; exact ⟨by simpa [Nat.blt_eq] using hin, decide_eq_true (by simp)⟩
  have hjb : (0 + ((avInt (f (0 + ii) 0)).tmod 8).toNat).blt 8 = true := by rw [hIX]; simpa [Nat.blt_eq] using hj8
  have hjb2 : (((avInt (f (0 + ii) 0)).tmod 8).toNat.blt 8 && decide (0 ≤ (avInt (f (0 + ii) 0)).tmod 8)) = true := by rw [Bool.and_eq_true, hjt]; exact ⟨by simpa [Nat.blt_eq] using hj8, decide_eq_true hr0⟩
  have hrr : (avInt (f (0 + ii) 0)).tmod 8 = (j : Int) := by rw [← hjt]; exact (Int.toNat_of_nonneg hr0).symm
  have hjt' : ((avInt (f ii 0)).tmod 8).toNat = j := by rw [← hjt, Nat.zero_add]
  have hjw : IntKind.i64.wrap ((avInt (f (0 + ii) 0)).tmod 8) = Int.ofNat j := by rw [hrr, wrap_nat64 _ (by omega) (by omega)]; rfl
  have hw1 : decide (IntKind.i64.wrap ((avInt (f (0 + ii) 0)).tmod 8) ≥ 16) = false := decide_eq_false (by rw [hjw]; simp; omega)
  have hw2 : decide (IntKind.i64.wrap ((avInt (f (0 + ii) 0)).tmod 8) < 0) = false := decide_eq_false (by rw [hjw]; simp)
  have hx2 : decide (0 ≥ IntKind.i64.wrap (IntKind.i64.wrap (if 4 < mget x.S.M (key 5 0 0) then 4 else mget x.S.M (key 5 0 0)) * 4)) = false := decide_eq_false (by rw [hx1]; omega)
  have q0 : lrow fam0 1 (hdT m f ii x).M j (0 + ((avInt (f (0 + ii) 0)).tmod 8).toNat) 0 = AV.symb i := by rw [hIX, lrow_j (mb := hdMb j ⟨2, i, a, e, p⟩) (by show hdMb j (x.O j) = _; rw [ho])]; rfl
  have q1 : lrow fam0 1 (hdT m f ii x).M j (0 + ((avInt (f (0 + ii) 0)).tmod 8).toNat) 1 = AV.sym .u64 a := by rw [hIX, lrow_j (mb := hdMb j ⟨2, i, a, e, p⟩) (by show hdMb j (x.O j) = _; rw [ho])]; rfl
  have q2 : lrow fam0 1 (hdT m f ii x).M j (0 + ((avInt (f (0 + ii) 0)).tmod 8).toNat) 2 = AV.nilp := by rw [hIX, lrow_j (mb := hdMb j ⟨2, i, a, e, p⟩) (by show hdMb j (x.O j) = _; rw [ho])]; rfl
  have q3 : lrow fam0 1 (hdT m f ii x).M j (0 + ((avInt (f (0 + ii) 0)).tmod 8).toNat) 3 = AV.nilp := by rw [hIX, lrow_j (mb := hdMb j ⟨2, i, a, e, p⟩) (by show hdMb j (x.O j) = _; rw [ho])]; rfl
  have q4 : lrow fam0 1 (hdT m f ii x).M j (0 + ((avInt (f (0 + ii) 0)).tmod 8).toNat) 4 = AV.ptr 900 0 0 := by rw [hIX, lrow_j (mb := hdMb j ⟨2, i, a, e, p⟩) (by show hdMb j (x.O j) = _; rw [ho])]; rfl
  have r0 : lrow fam0 1 (hdT m f ii x).M j j 0 = AV.symb i := by rw [lrow_j (mb := hdMb j ⟨2, i, a, e, p⟩) (by show hdMb j (x.O j) = _; rw [ho])]; rfl
  have r1 : lrow fam0 1 (hdT m f ii x).M j j 1 = AV.sym .u64 a := by rw [lrow_j (mb := hdMb j ⟨2, i, a, e, p⟩) (by show hdMb j (x.O j) = _; rw [ho])]; rfl
  have r2 : lrow fam0 1 (hdT m f ii x).M j j 2 = AV.nilp := by rw [lrow_j (mb := hdMb j ⟨2, i, a, e, p⟩) (by show hdMb j (x.O j) = _; rw [ho])]; rfl
  have r3 : lrow fam0 1 (hdT m f ii x).M j j 3 = AV.nilp := by rw [lrow_j (mb := hdMb j ⟨2, i, a, e, p⟩) (by show hdMb j (x.O j) = _; rw [ho])]; rfl
  have r4 : lrow fam0 1 (hdT m f ii x).M j j 4 = AV.ptr 900 0 0 := by rw [lrow_j (mb := hdMb j ⟨2, i, a, e, p⟩) (by show hdMb j (x.O j) = _; rw [ho])]; rfl
  have c0 : (lrow fam0 1 (hdT m f ii x).M j) j 0 = AV.symb i := by exact r0
  have c1 : (lrow fam0 1 (hdT m f ii x).M j) j 1 = AV.sym .u64 a := by exact r1
  have c2 : (lrow fam0 1 (hdT m f ii x).M j) j 2 = AV.nilp := by exact r2
  have c3 : (lrow fam0 1 (hdT m f ii x).M j) j 3 = AV.nilp := by exact r3
  have c4 : (lrow fam0 1 (hdT m f ii x).M j) j 4 = AV.ptr 900 0 0 := by exact r4
  have hrow : ∀ k0, k0 < 8 → rowV (CM.mk 5 fam0 [(5, Src.nm 5), (900, Src.nm 900)]) hdSh 0 ((lrow fam0 1 (hdT m f ii x).M j) k0) (lrow fam0 1 (hdT1 m f ii ⟨mLoad (mLoad x.S 5 0 0) 1 0 0, fun k => if k = j then ⟨3, i, a, e, 0⟩ else x.O k⟩).M j k0) := hd_rows (y := ⟨mLoad (mLoad x.S 5 0 0) 1 0 0, fun k => if k = j then ⟨3, i, a, e, 0⟩ else x.O k⟩) (x := x) (Nat.le_refl _) (fun k0 hk0 => if_neg hk0) (fun k0 hk0 cc => by rfl)
    (by show rowV _ hdSh 0 _ (fun cc => mrow 1 900 (hdMb j (if j = j then ⟨3, i, a, e, 0⟩ else _)) cc); rw [if_pos rfl]; exact ⟨by rw [c0]; rfl, by rw [c1]; rfl, by rw [c2]; exact valV_nilp, by rw [c3]; exact valV_nilp, by rw [c4]; exact valV_ptr (n := 900) rfl, trivial⟩)
  refine fex_pre Ehd_ok hdFam hdSOk j true true (hE_1 m f e0 ii x ⟨mLoad (mLoad x.S 5 0 0) 1 0 0, fun k => if k = j then ⟨3, i, a, e, 0⟩ else x.O k⟩ j i a e p) (cj ⟨rfl, rfl, rfl, rfl, rfl, rfl, rfl, rfl, rfl, rfl, rfl, rfl, hx1, rfl, Nat.le_refl _, hrow, rfl, rfl, rfl, rfl, rfl, rfl, rfl, rfl, (fun _ => rfl), rfl, Nat.le_refl _, .inl ⟨rfl, rfl⟩, hT1, hT2, hx2, q4, hjb, q4, hjb, q4, hjb, q3, hjb, q2, hjb, hii1, hii2, hii1, hii2, hjb2, hii1, hii2, trivial⟩) (hdG _ _ _ _) (hdG1 _ _ _ _) (fun _ => hj8) (by show hdMb j (x.O j) = _; rw [ho]) (by show hdMb j (if j = j then _ else _) = _; rw [if_pos rfl]) (.inl ⟨rfl, hj8⟩) (fun k hk hne => ⟨hk, by show hdMb k (if k = j then _ else x.O k) = hdMb k (x.O k); rw [if_neg hne]⟩) hrest
theorem hF_1 (m : Nat) (f : Nat → Nat → AV) (e0 : Int) (ii : Nat) (x y : HX) (j : Nat) (i : Bool) (a e p : Int) : roundB Ehd 3000 hdXs (h0F hdF (hdU m f e0)) [(5, Src.nm 5)] (locSt hdF (hdT m f ii x) true (hdMb j (HO.mk 3 i a e p)) j []) [Hint.node [(21, [Hint.a AV.nilp, Hint.a AV.nilp, Hint.a (AV.ptr 900 0 0), Hint.a (AV.ptr 900 0 0), Hint.a (AV.ptr 900 0 0), Hint.b true, Hint.b true])], Hint.b false, Hint.b false] (locSt hdF (hdT1 m f ii y) true (hdMb j (HO.mk 0 i a 0 0)) j []) =
 some (Ex.norm, [(0 : Nat) = 0,
 m = m,
 (none : Option Nat) = none,
 (0 : Nat) = 0,
 (0 : Nat) = 0,
 (0 : Nat) = 0,
 (8 : Nat) = 8,
 some 8 = some 8,
 Int.ofNat ii = Int.ofNat ii,
 mget x.S.M (key 1 0 0) = hdE y.S,
 false = false,
 (8 : Nat) ≤ (8 : Nat),
 ∀ (i : Nat), i < 8 → rowV (CM.mk 5 fam0 [(5, Src.nm 5)]) hdF.sh 0 (upd (lrow fam0 1 (hdT m f ii x).M j) (0 + ((avInt (f (0 + ii) 0)).tmod 8).toNat) 4 (ofVal (Value.pointer none)).cells i) (lrow fam0 1 (hdT1 m f ii y).M j i),
 IntKind.i64.wrap (IntKind.i64.wrap (x.S.st + 1) + 1) = y.S.st,
 1 = y.S.L.c,
 1 = y.S.L.k,
 0 = y.S.L.a,
 0 = y.S.L.f,
 mget x.S.M (key 1 0 0) = y.S.L.w,
 mget x.S.M (key 1 0 0) = y.S.L.i,
 false = y.S.L.d,
 ∀ (k : List Int), x.S.M k = y.S.M k,
 true = true,
 m ≤ m,
 f = f ∧ plainSh [CK.int IntKind.u8] = true ∨ ∀ (i : Nat), i < m → rowOb [CK.int IntKind.u8] 0 (f i) (f i),
 decide (mget x.S.M (key 1 0 0) > IntKind.u64.wrap (hdE x.S + 1)) = false,
 decide (mget x.S.M (key 1 0 0) < hdE x.S) = false,
 (0 + ((avInt (f (0 + ii) 0)).tmod 8).toNat).blt 8 = true,
 (mget x.S.M (key 8 p 3) != IntKind.u64.wrap ↑(BitVec.ofInt 64 (IntKind.u64.wrap (e * 2)) ||| BitVec.ofInt 64 1).toNat) = true,
 (IntKind.u64.wrap ↑(BitVec.ofInt 64 (mget x.S.M (key 8 p 3)) &&& BitVec.ofInt 64 1).toNat == 1) = true,
 lrow fam0 1 (hdT m f ii x).M j (0 + ((avInt (f (0 + ii) 0)).tmod 8).toNat) 4 = AV.ptr 900 0 0,
 (0 + ((avInt (f (0 + ii) 0)).tmod 8).toNat).blt 8 = true,
 lrow fam0 1 (hdT m f ii x).M j (0 + ((avInt (f (0 + ii) 0)).tmod 8).toNat) 4 = AV.ptr 900 0 0,
 (0 + ((avInt (f (0 + ii) 0)).tmod 8).toNat).blt 8 = true,
 lrow fam0 1 (hdT m f ii x).M j (0 + ((avInt (f (0 + ii) 0)).tmod 8).toNat) 4 = AV.ptr 900 0 0,
 (0 + ((avInt (f (0 + ii) 0)).tmod 8).toNat).blt 8 = true,
 lrow fam0 1 (hdT m f ii x).M j (0 + ((avInt (f (0 + ii) 0)).tmod 8).toNat) 3 = AV.nilp,
 (0 + ((avInt (f (0 + ii) 0)).tmod 8).toNat).blt 8 = true,
 lrow fam0 1 (hdT m f ii x).M j (0 + ((avInt (f (0 + ii) 0)).tmod 8).toNat) 2 = AV.nilp,
 (0 + ((avInt (f (0 + ii) 0)).tmod 8).toNat).blt 8 = true,
 (0 + ii).blt m = true,
 (ii.blt m && decide (0 ≤ Int.ofNat ii)) = true,
 (0 + ii).blt m = true,
 (ii.blt m && decide (0 ≤ Int.ofNat ii)) = true,
 (((avInt (f (0 + ii) 0)).tmod 8).toNat.blt 8 && decide (0 ≤ (avInt (f (0 + ii) 0)).tmod 8)) = true,
 (0 + ii).blt m = true,
 (ii.blt m && decide (0 ≤ Int.ofNat ii)) = true]) := by kernel_rfl
theorem hF_ex {m : Nat} {f : Nat → Nat → AV} {e0 : Int} {ii : Nat} {x : HX} {j : Nat} {i : Bool} {a e p : Int} (hin : ii < m) (hj8 : j < 8) (hr0 : 0 ≤ (avInt (f (0 + ii) 0)).tmod 8) (hjt : ((avInt (f (0 + ii) 0)).tmod 8).toNat = j) (ho : x.O j = ⟨3, i, a, e, p⟩) (hx1 : (IntKind.u64.wrap ↑(BitVec.ofInt 64 (mget x.S.M (key 8 p 3)) &&& BitVec.ofInt 64 1).toNat == 1) = true) (hx2 : (mget x.S.M (key 8 p 3) != (IntKind.u64.wrap ↑(BitVec.ofInt 64 (IntKind.u64.wrap (e * 2)) ||| BitVec.ofInt 64 1).toNat)) = true) {z : FSt}
    (hT1 : decide (hdE (mLoad (mLoad x.S 8 p 3) 1 0 0) > IntKind.u64.wrap (hdE x.S + 1)) = false) (hT2 : decide (hdE (mLoad (mLoad x.S 8 p 3) 1 0 0) < hdE x.S) = false)
    (hrest : FEx Try.prog hdF (hdU m f e0) hdY (hdT1 m f ii ⟨mLoad (mLoad x.S 8 p 3) 1 0 0, fun k => if k = j then ⟨0, i, a, 0, 0⟩ else x.O k⟩) .norm z) : FEx Try.prog hdF (hdU m f e0) (seqs (headC 3 hdX_) hdY) (hdT m f ii x) .norm z := by
  have hIX : (0 + ((avInt (f (0 + ii) 0)).tmod 8).toNat) = j := by rw [Nat.zero_add]; exact hjt
  have hii1 : (0 + ii).blt m = true := by rw [Nat.zero_add]; simpa [Nat.blt_eq] using hin
  have hii2 : (ii.blt m && decide (0 ≤ Int.ofNat ii)) = true := by rw [Bool.and_eq_true]; exact ⟨by simpa [Nat.blt_eq] using hin, decide_eq_true (by simp)⟩
  have hjb : (0 + ((avInt (f (0 + ii) 0)).tmod 8).toNat).blt 8 = true := by rw [hIX]; simpa [Nat.blt_eq] using hj8
  have hjb2 : (((avInt (f (0 + ii) 0)).tmod 8).toNat.blt 8 && decide (0 ≤ (avInt (f (0 + ii) 0)).tmod 8)) = true := by rw [Bool.and_eq_true, hjt]; exact ⟨by simpa [Nat.blt_eq] using hj8, decide_eq_true hr0⟩
  have hrr : (avInt (f (0 + ii) 0)).tmod 8 = (j : Int) := by rw [← hjt]; exact (Int.toNat_of_nonneg hr0).symm
  have hjt' : ((avInt (f ii 0)).tmod 8).toNat = j := by rw [← hjt, Nat.zero_add]
  have hjw : IntKind.i64.wrap ((avInt (f (0 + ii) 0)).tmod 8) = Int.ofNat j := by rw [hrr, wrap_nat64 _ (by omega) (by omega)]; rfl
  have hw1 : decide (IntKind.i64.wrap ((avInt (f (0 + ii) 0)).tmod 8) ≥ 16) = false := decide_eq_false (by rw [hjw]; simp; omega)
  have hw2 : decide (IntKind.i64.wrap ((avInt (f (0 + ii) 0)).tmod 8) < 0) = false := decide_eq_false (by rw [hjw]; simp)
  have q0 : lrow fam0 1 (hdT m f ii x).M j (0 + ((avInt (f (0 + ii) 0)).tmod 8).toNat) 0 = AV.symb i := by rw [hIX, lrow_j (mb := hdMb j ⟨3, i, a, e, p⟩) (by show hdMb j (x.O j) = _; rw [ho])]; rfl
  have q1 : lrow fam0 1 (hdT m f ii x).M j (0 + ((avInt (f (0 + ii) 0)).tmod 8).toNat) 1 = AV.sym .u64 a := by rw [hIX, lrow_j (mb := hdMb j ⟨3, i, a, e, p⟩) (by show hdMb j (x.O j) = _; rw [ho])]; rfl
  have q2 : lrow fam0 1 (hdT m f ii x).M j (0 + ((avInt (f (0 + ii) 0)).tmod 8).toNat) 2 = AV.nilp := by rw [hIX, lrow_j (mb := hdMb j ⟨3, i, a, e, p⟩) (by show hdMb j (x.O j) = _; rw [ho])]; rfl
  have q3 : lrow fam0 1 (hdT m f ii x).M j (0 + ((avInt (f (0 + ii) 0)).tmod 8).toNat) 3 = AV.nilp := by rw [hIX, lrow_j (mb := hdMb j ⟨3, i, a, e, p⟩) (by show hdMb j (x.O j) = _; rw [ho])]; rfl
  have q4 : lrow fam0 1 (hdT m f ii x).M j (0 + ((avInt (f (0 + ii) 0)).tmod 8).toNat) 4 = AV.ptr 900 0 0 := by rw [hIX, lrow_j (mb := hdMb j ⟨3, i, a, e, p⟩) (by show hdMb j (x.O j) = _; rw [ho])]; rfl
  have r0 : lrow fam0 1 (hdT m f ii x).M j j 0 = AV.symb i := by rw [lrow_j (mb := hdMb j ⟨3, i, a, e, p⟩) (by show hdMb j (x.O j) = _; rw [ho])]; rfl
  have r1 : lrow fam0 1 (hdT m f ii x).M j j 1 = AV.sym .u64 a := by rw [lrow_j (mb := hdMb j ⟨3, i, a, e, p⟩) (by show hdMb j (x.O j) = _; rw [ho])]; rfl
  have r2 : lrow fam0 1 (hdT m f ii x).M j j 2 = AV.nilp := by rw [lrow_j (mb := hdMb j ⟨3, i, a, e, p⟩) (by show hdMb j (x.O j) = _; rw [ho])]; rfl
  have r3 : lrow fam0 1 (hdT m f ii x).M j j 3 = AV.nilp := by rw [lrow_j (mb := hdMb j ⟨3, i, a, e, p⟩) (by show hdMb j (x.O j) = _; rw [ho])]; rfl
  have r4 : lrow fam0 1 (hdT m f ii x).M j j 4 = AV.ptr 900 0 0 := by rw [lrow_j (mb := hdMb j ⟨3, i, a, e, p⟩) (by show hdMb j (x.O j) = _; rw [ho])]; rfl
  have c0 : (upd (lrow fam0 1 (hdT m f ii x).M j) (0 + ((avInt (f (0 + ii) 0)).tmod 8).toNat) 4 [.nilp]) j 0 = AV.symb i := by simp [upd, nth, hjt', r0]
  have c1 : (upd (lrow fam0 1 (hdT m f ii x).M j) (0 + ((avInt (f (0 + ii) 0)).tmod 8).toNat) 4 [.nilp]) j 1 = AV.sym .u64 a := by simp [upd, nth, hjt', r1]
  have c2 : (upd (lrow fam0 1 (hdT m f ii x).M j) (0 + ((avInt (f (0 + ii) 0)).tmod 8).toNat) 4 [.nilp]) j 2 = AV.nilp := by simp [upd, nth, hjt', r2]
  have c3 : (upd (lrow fam0 1 (hdT m f ii x).M j) (0 + ((avInt (f (0 + ii) 0)).tmod 8).toNat) 4 [.nilp]) j 3 = AV.nilp := by simp [upd, nth, hjt', r3]
  have c4 : (upd (lrow fam0 1 (hdT m f ii x).M j) (0 + ((avInt (f (0 + ii) 0)).tmod 8).toNat) 4 [.nilp]) j 4 = AV.nilp := by simp [upd, nth, hjt']
  have hrow : ∀ k0, k0 < 8 → rowV (CM.mk 5 fam0 [(5, Src.nm 5)]) hdSh 0 ((upd (lrow fam0 1 (hdT m f ii x).M j) (0 + ((avInt (f (0 + ii) 0)).tmod 8).toNat) 4 [.nilp]) k0) (lrow fam0 1 (hdT1 m f ii ⟨mLoad (mLoad x.S 8 p 3) 1 0 0, fun k => if k = j then ⟨0, i, a, 0, 0⟩ else x.O k⟩).M j k0) := hd_rows (y := ⟨mLoad (mLoad x.S 8 p 3) 1 0 0, fun k => if k = j then ⟨0, i, a, 0, 0⟩ else x.O k⟩) (x := x) (Nat.le_refl _) (fun k0 hk0 => if_neg hk0) (fun k0 hk0 cc => by simp [upd, hjt', hk0]; rfl)
    (by show rowV _ hdSh 0 _ (fun cc => mrow 1 900 (hdMb j (if j = j then ⟨0, i, a, 0, 0⟩ else _)) cc); rw [if_pos rfl]; exact ⟨by rw [c0]; rfl, by rw [c1]; rfl, by rw [c2]; exact valV_nilp, by rw [c3]; exact valV_nilp, by rw [c4]; exact valV_nilp, trivial⟩)
  refine fex_pre Ehd_ok hdFam hdSOk j true true (hF_1 m f e0 ii x ⟨mLoad (mLoad x.S 8 p 3) 1 0 0, fun k => if k = j then ⟨0, i, a, 0, 0⟩ else x.O k⟩ j i a e p) (cj ⟨rfl, rfl, rfl, rfl, rfl, rfl, rfl, rfl, rfl, rfl, rfl, Nat.le_refl _, hrow, rfl, rfl, rfl, rfl, rfl, rfl, rfl, rfl, (fun _ => rfl), rfl, Nat.le_refl _, .inl ⟨rfl, rfl⟩, hT1, hT2, hjb, hx2, hx1, q4, hjb, q4, hjb, q4, hjb, q3, hjb, q2, hjb, hii1, hii2, hii1, hii2, hjb2, hii1, hii2, trivial⟩) (hdG _ _ _ _) (hdG1 _ _ _ _) (fun _ => hj8) (by show hdMb j (x.O j) = _; rw [ho]) (by show hdMb j (if j = j then _ else _) = _; rw [if_pos rfl]) (.inl ⟨rfl, hj8⟩) (fun k hk hne => ⟨hk, by show hdMb k (if k = j then _ else x.O k) = hdMb k (x.O k); rw [if_neg hne]⟩) hrest
theorem hG_1 (m : Nat) (f : Nat → Nat → AV) (e0 : Int) (ii : Nat) (x y : HX) (j : Nat) (i : Bool) (a e p : Int) : roundB Ehd 3000 hdXs (h0F hdF (hdU m f e0)) [(5, Src.nm 5), (900, Src.nm 900)] (locSt hdF (hdT m f ii x) true (hdMb j (HO.mk 3 i a e p)) j []) [Hint.node [(21, [Hint.a AV.nilp, Hint.a AV.nilp, Hint.a (AV.ptr 900 0 0), Hint.a (AV.ptr 900 0 0), Hint.a (AV.ptr 900 0 0), Hint.b false, Hint.b false])], Hint.b false, Hint.b false] (locSt hdF (hdT1 m f ii y) true (hdMb j (HO.mk 3 i a e (p + 1))) j []) =
 some (Ex.norm, [(0 : Nat) = 0,
 m = m,
 (none : Option Nat) = none,
 (0 : Nat) = 0,
 (0 : Nat) = 0,
 (0 : Nat) = 0,
 (8 : Nat) = 8,
 some 8 = some 8,
 Int.ofNat ii = Int.ofNat ii,
 mget x.S.M (key 1 0 0) = hdE y.S,
 e = e,
 IntKind.i64.wrap (p + 1) = p + 1,
 (8 : Int) = 8,
 false = false,
 (8 : Nat) ≤ (8 : Nat),
 ∀ (i : Nat), i < 8 → rowV (CM.mk 5 fam0 [(5, Src.nm 5), (900, Src.nm 900)]) hdF.sh 0 (lrow fam0 1 (hdT m f ii x).M j i) (lrow fam0 1 (hdT1 m f ii y).M j i),
 IntKind.i64.wrap (IntKind.i64.wrap (x.S.st + 1) + 1) = y.S.st,
 1 = y.S.L.c,
 1 = y.S.L.k,
 0 = y.S.L.a,
 0 = y.S.L.f,
 mget x.S.M (key 1 0 0) = y.S.L.w,
 mget x.S.M (key 1 0 0) = y.S.L.i,
 false = y.S.L.d,
 ∀ (k : List Int), x.S.M k = y.S.M k,
 true = true,
 m ≤ m,
 f = f ∧ plainSh [CK.int IntKind.u8] = true ∨ ∀ (i : Nat), i < m → rowOb [CK.int IntKind.u8] 0 (f i) (f i),
 decide (mget x.S.M (key 1 0 0) > IntKind.u64.wrap (hdE x.S + 1)) = false,
 decide (mget x.S.M (key 1 0 0) < hdE x.S) = false,
 decide (IntKind.i64.wrap (p + 1) ≥ 8) = false,
 (IntKind.u64.wrap ↑(BitVec.ofInt 64 (mget x.S.M (key 8 p 3)) &&& BitVec.ofInt 64 1).toNat == 1) = false,
 lrow fam0 1 (hdT m f ii x).M j (0 + ((avInt (f (0 + ii) 0)).tmod 8).toNat) 4 = AV.ptr 900 0 0,
 (0 + ((avInt (f (0 + ii) 0)).tmod 8).toNat).blt 8 = true,
 lrow fam0 1 (hdT m f ii x).M j (0 + ((avInt (f (0 + ii) 0)).tmod 8).toNat) 4 = AV.ptr 900 0 0,
 (0 + ((avInt (f (0 + ii) 0)).tmod 8).toNat).blt 8 = true,
 lrow fam0 1 (hdT m f ii x).M j (0 + ((avInt (f (0 + ii) 0)).tmod 8).toNat) 4 = AV.ptr 900 0 0,
 (0 + ((avInt (f (0 + ii) 0)).tmod 8).toNat).blt 8 = true,
 lrow fam0 1 (hdT m f ii x).M j (0 + ((avInt (f (0 + ii) 0)).tmod 8).toNat) 3 = AV.nilp,
 (0 + ((avInt (f (0 + ii) 0)).tmod 8).toNat).blt 8 = true,
 lrow fam0 1 (hdT m f ii x).M j (0 + ((avInt (f (0 + ii) 0)).tmod 8).toNat) 2 = AV.nilp,
 (0 + ((avInt (f (0 + ii) 0)).tmod 8).toNat).blt 8 = true,
 (0 + ii).blt m = true,
 (ii.blt m && decide (0 ≤ Int.ofNat ii)) = true,
 (0 + ii).blt m = true,
 (ii.blt m && decide (0 ≤ Int.ofNat ii)) = true,
 (((avInt (f (0 + ii) 0)).tmod 8).toNat.blt 8 && decide (0 ≤ (avInt (f (0 + ii) 0)).tmod 8)) = true,
 (0 + ii).blt m = true,
 (ii.blt m && decide (0 ≤ Int.ofNat ii)) = true]) := by kernel_rfl
theorem hG_ex {m : Nat} {f : Nat → Nat → AV} {e0 : Int} {ii : Nat} {x : HX} {j : Nat} {i : Bool} {a e p : Int} (hin : ii < m) (hj8 : j < 8) (hr0 : 0 ≤ (avInt (f (0 + ii) 0)).tmod 8) (hjt : ((avInt (f (0 + ii) 0)).tmod 8).toNat = j) (ho : x.O j = ⟨3, i, a, e, p⟩) (hx1 : (IntKind.u64.wrap ↑(BitVec.ofInt 64 (mget x.S.M (key 8 p 3)) &&& BitVec.ofInt 64 1).toNat == 1) = false) (hp : IntKind.i64.wrap (p + 1) = p + 1) (hp8 : p + 1 < 8) {z : FSt}
    (hT1 : decide (hdE (mLoad (mLoad x.S 8 p 3) 1 0 0) > IntKind.u64.wrap (hdE x.S + 1)) = false) (hT2 : decide (hdE (mLoad (mLoad x.S 8 p 3) 1 0 0) < hdE x.S) = false)
    (hrest : FEx Try.prog hdF (hdU m f e0) hdY (hdT1 m f ii ⟨mLoad (mLoad x.S 8 p 3) 1 0 0, fun k => if k = j then ⟨3, i, a, e, p + 1⟩ else x.O k⟩) .norm z) : FEx Try.prog hdF (hdU m f e0) (seqs (headC 3 hdX_) hdY) (hdT m f ii x) .norm z := by
  have hIX : (0 + ((avInt (f (0 + ii) 0)).tmod 8).toNat) = j := by rw [Nat.zero_add]; exact hjt
  have hii1 : (0 + ii).blt m = true := by rw [Nat.zero_add]; simpa [Nat.blt_eq] using hin
  have hii2 : (ii.blt m && decide (0 ≤ Int.ofNat ii)) = true := by rw [Bool.and_eq_true]; exact ⟨by simpa [Nat.blt_eq] using hin, decide_eq_true (by simp)⟩
  have hjb : (0 + ((avInt (f (0 + ii) 0)).tmod 8).toNat).blt 8 = true := by rw [hIX]; simpa [Nat.blt_eq] using hj8
  have hjb2 : (((avInt (f (0 + ii) 0)).tmod 8).toNat.blt 8 && decide (0 ≤ (avInt (f (0 + ii) 0)).tmod 8)) = true := by rw [Bool.and_eq_true, hjt]; exact ⟨by simpa [Nat.blt_eq] using hj8, decide_eq_true hr0⟩
  have hrr : (avInt (f (0 + ii) 0)).tmod 8 = (j : Int) := by rw [← hjt]; exact (Int.toNat_of_nonneg hr0).symm
  have hjt' : ((avInt (f ii 0)).tmod 8).toNat = j := by rw [← hjt, Nat.zero_add]
  have hjw : IntKind.i64.wrap ((avInt (f (0 + ii) 0)).tmod 8) = Int.ofNat j := by rw [hrr, wrap_nat64 _ (by omega) (by omega)]; rfl
  have hw1 : decide (IntKind.i64.wrap ((avInt (f (0 + ii) 0)).tmod 8) ≥ 16) = false := decide_eq_false (by rw [hjw]; simp; omega)
  have hw2 : decide (IntKind.i64.wrap ((avInt (f (0 + ii) 0)).tmod 8) < 0) = false := decide_eq_false (by rw [hjw]; simp)
  have hx4 := hp
  have hx3 : decide (IntKind.i64.wrap (p + 1) ≥ 8) = false := decide_eq_false (by rw [hp]; omega)
  have q0 : lrow fam0 1 (hdT m f ii x).M j (0 + ((avInt (f (0 + ii) 0)).tmod 8).toNat) 0 = AV.symb i := by rw [hIX, lrow_j (mb := hdMb j ⟨3, i, a, e, p⟩) (by show hdMb j (x.O j) = _; rw [ho])]; rfl
  have q1 : lrow fam0 1 (hdT m f ii x).M j (0 + ((avInt (f (0 + ii) 0)).tmod 8).toNat) 1 = AV.sym .u64 a := by rw [hIX, lrow_j (mb := hdMb j ⟨3, i, a, e, p⟩) (by show hdMb j (x.O j) = _; rw [ho])]; rfl
  have q2 : lrow fam0 1 (hdT m f ii x).M j (0 + ((avInt (f (0 + ii) 0)).tmod 8).toNat) 2 = AV.nilp := by rw [hIX, lrow_j (mb := hdMb j ⟨3, i, a, e, p⟩) (by show hdMb j (x.O j) = _; rw [ho])]; rfl
  have q3 : lrow fam0 1 (hdT m f ii x).M j (0 + ((avInt (f (0 + ii) 0)).tmod 8).toNat) 3 = AV.nilp := by rw [hIX, lrow_j (mb := hdMb j ⟨3, i, a, e, p⟩) (by show hdMb j (x.O j) = _; rw [ho])]; rfl
  have q4 : lrow fam0 1 (hdT m f ii x).M j (0 + ((avInt (f (0 + ii) 0)).tmod 8).toNat) 4 = AV.ptr 900 0 0 := by rw [hIX, lrow_j (mb := hdMb j ⟨3, i, a, e, p⟩) (by show hdMb j (x.O j) = _; rw [ho])]; rfl
  have r0 : lrow fam0 1 (hdT m f ii x).M j j 0 = AV.symb i := by rw [lrow_j (mb := hdMb j ⟨3, i, a, e, p⟩) (by show hdMb j (x.O j) = _; rw [ho])]; rfl
  have r1 : lrow fam0 1 (hdT m f ii x).M j j 1 = AV.sym .u64 a := by rw [lrow_j (mb := hdMb j ⟨3, i, a, e, p⟩) (by show hdMb j (x.O j) = _; rw [ho])]; rfl
  have r2 : lrow fam0 1 (hdT m f ii x).M j j 2 = AV.nilp := by rw [lrow_j (mb := hdMb j ⟨3, i, a, e, p⟩) (by show hdMb j (x.O j) = _; rw [ho])]; rfl
  have r3 : lrow fam0 1 (hdT m f ii x).M j j 3 = AV.nilp := by rw [lrow_j (mb := hdMb j ⟨3, i, a, e, p⟩) (by show hdMb j (x.O j) = _; rw [ho])]; rfl
  have r4 : lrow fam0 1 (hdT m f ii x).M j j 4 = AV.ptr 900 0 0 := by rw [lrow_j (mb := hdMb j ⟨3, i, a, e, p⟩) (by show hdMb j (x.O j) = _; rw [ho])]; rfl
  have c0 : (lrow fam0 1 (hdT m f ii x).M j) j 0 = AV.symb i := by exact r0
  have c1 : (lrow fam0 1 (hdT m f ii x).M j) j 1 = AV.sym .u64 a := by exact r1
  have c2 : (lrow fam0 1 (hdT m f ii x).M j) j 2 = AV.nilp := by exact r2
  have c3 : (lrow fam0 1 (hdT m f ii x).M j) j 3 = AV.nilp := by exact r3
  have c4 : (lrow fam0 1 (hdT m f ii x).M j) j 4 = AV.ptr 900 0 0 := by exact r4
  have hrow : ∀ k0, k0 < 8 → rowV (CM.mk 5 fam0 [(5, Src.nm 5), (900, Src.nm 900)]) hdSh 0 ((lrow fam0 1 (hdT m f ii x).M j) k0) (lrow fam0 1 (hdT1 m f ii ⟨mLoad (mLoad x.S 8 p 3) 1 0 0, fun k => if k = j then ⟨3, i, a, e, p + 1⟩ else x.O k⟩).M j k0) := hd_rows (y := ⟨mLoad (mLoad x.S 8 p 3) 1 0 0, fun k => if k = j then ⟨3, i, a, e, p + 1⟩ else x.O k⟩) (x := x) (Nat.le_refl _) (fun k0 hk0 => if_neg hk0) (fun k0 hk0 cc => by rfl)
    (by show rowV _ hdSh 0 _ (fun cc => mrow 1 900 (hdMb j (if j = j then ⟨3, i, a, e, p + 1⟩ else _)) cc); rw [if_pos rfl]; exact ⟨by rw [c0]; rfl, by rw [c1]; rfl, by rw [c2]; exact valV_nilp, by rw [c3]; exact valV_nilp, by rw [c4]; exact valV_ptr (n := 900) rfl, trivial⟩)
  refine fex_pre Ehd_ok hdFam hdSOk j true true (hG_1 m f e0 ii x ⟨mLoad (mLoad x.S 8 p 3) 1 0 0, fun k => if k = j then ⟨3, i, a, e, p + 1⟩ else x.O k⟩ j i a e p) (cj ⟨rfl, rfl, rfl, rfl, rfl, rfl, rfl, rfl, rfl, rfl, rfl, hx4, rfl, rfl, Nat.le_refl _, hrow, rfl, rfl, rfl, rfl, rfl, rfl, rfl, rfl, (fun _ => rfl), rfl, Nat.le_refl _, .inl ⟨rfl, rfl⟩, hT1, hT2, hx3, hx1, q4, hjb, q4, hjb, q4, hjb, q3, hjb, q2, hjb, hii1, hii2, hii1, hii2, hjb2, hii1, hii2, trivial⟩) (hdG _ _ _ _) (hdG1 _ _ _ _) (fun _ => hj8) (by show hdMb j (x.O j) = _; rw [ho]) (by show hdMb j (if j = j then _ else _) = _; rw [if_pos rfl]) (.inl ⟨rfl, hj8⟩) (fun k hk hne => ⟨hk, by show hdMb k (if k = j then _ else x.O k) = hdMb k (x.O k); rw [if_neg hne]⟩) hrest
theorem hH_1 (m : Nat) (f : Nat → Nat → AV) (e0 : Int) (ii : Nat) (x y : HX) (j : Nat) (i : Bool) (a e p : Int) : roundB Ehd 3000 hdXs (h0F hdF (hdU m f e0)) [(5, Src.nm 5), (900, Src.nm 900)] (locSt hdF (hdT m f ii x) true (hdMb j (HO.mk 3 i a e p)) j []) [Hint.node [(21, [Hint.a AV.nilp, Hint.a AV.nilp, Hint.a (AV.ptr 900 0 0), Hint.a (AV.ptr 900 0 0), Hint.a (AV.ptr 900 0 0), Hint.b true, Hint.b false, Hint.b false])], Hint.b false, Hint.b false] (locSt hdF (hdT1 m f ii y) true (hdMb j (HO.mk 3 i a e (p + 1))) j []) =
 some (Ex.norm, [(0 : Nat) = 0,
 m = m,
 (none : Option Nat) = none,
 (0 : Nat) = 0,
 (0 : Nat) = 0,
 (0 : Nat) = 0,
 (8 : Nat) = 8,
 some 8 = some 8,
 Int.ofNat ii = Int.ofNat ii,
 mget x.S.M (key 1 0 0) = hdE y.S,
 e = e,
 IntKind.i64.wrap (p + 1) = p + 1,
 (8 : Int) = 8,
 false = false,
 (8 : Nat) ≤ (8 : Nat),
 ∀ (i : Nat), i < 8 → rowV (CM.mk 5 fam0 [(5, Src.nm 5), (900, Src.nm 900)]) hdF.sh 0 (lrow fam0 1 (hdT m f ii x).M j i) (lrow fam0 1 (hdT1 m f ii y).M j i),
 IntKind.i64.wrap (IntKind.i64.wrap (x.S.st + 1) + 1) = y.S.st,
 1 = y.S.L.c,
 1 = y.S.L.k,
 0 = y.S.L.a,
 0 = y.S.L.f,
 mget x.S.M (key 1 0 0) = y.S.L.w,
 mget x.S.M (key 1 0 0) = y.S.L.i,
 false = y.S.L.d,
 ∀ (k : List Int), x.S.M k = y.S.M k,
 true = true,
 m ≤ m,
 f = f ∧ plainSh [CK.int IntKind.u8] = true ∨ ∀ (i : Nat), i < m → rowOb [CK.int IntKind.u8] 0 (f i) (f i),
 decide (mget x.S.M (key 1 0 0) > IntKind.u64.wrap (hdE x.S + 1)) = false,
 decide (mget x.S.M (key 1 0 0) < hdE x.S) = false,
 decide (IntKind.i64.wrap (p + 1) ≥ 8) = false,
 (mget x.S.M (key 8 p 3) != IntKind.u64.wrap ↑(BitVec.ofInt 64 (IntKind.u64.wrap (e * 2)) ||| BitVec.ofInt 64 1).toNat) = false,
 (IntKind.u64.wrap ↑(BitVec.ofInt 64 (mget x.S.M (key 8 p 3)) &&& BitVec.ofInt 64 1).toNat == 1) = true,
 lrow fam0 1 (hdT m f ii x).M j (0 + ((avInt (f (0 + ii) 0)).tmod 8).toNat) 4 = AV.ptr 900 0 0,
 (0 + ((avInt (f (0 + ii) 0)).tmod 8).toNat).blt 8 = true,
 lrow fam0 1 (hdT m f ii x).M j (0 + ((avInt (f (0 + ii) 0)).tmod 8).toNat) 4 = AV.ptr 900 0 0,
 (0 + ((avInt (f (0 + ii) 0)).tmod 8).toNat).blt 8 = true,
 lrow fam0 1 (hdT m f ii x).M j (0 + ((avInt (f (0 + ii) 0)).tmod 8).toNat) 4 = AV.ptr 900 0 0,
 (0 + ((avInt (f (0 + ii) 0)).tmod 8).toNat).blt 8 = true,
 lrow fam0 1 (hdT m f ii x).M j (0 + ((avInt (f (0 + ii) 0)).tmod 8).toNat) 3 = AV.nilp,
 (0 + ((avInt (f (0 + ii) 0)).tmod 8).toNat).blt 8 = true,
 lrow fam0 1 (hdT m f ii x).M j (0 + ((avInt (f (0 + ii) 0)).tmod 8).toNat) 2 = AV.nilp,
 (0 + ((avInt (f (0 + ii) 0)).tmod 8).toNat).blt 8 = true,
 (0 + ii).blt m = true,
 (ii.blt m && decide (0 ≤ Int.ofNat ii)) = true,
 (0 + ii).blt m = true,
 (ii.blt m && decide (0 ≤ Int.ofNat ii)) = true,
 (((avInt (f (0 + ii) 0)).tmod 8).toNat.blt 8 && decide (0 ≤ (avInt (f (0 + ii) 0)).tmod 8)) = true,
 (0 + ii).blt m = true,
 (ii.blt m && decide (0 ≤ Int.ofNat ii)) = true]) := by kernel_rfl
theorem hH_ex {m : Nat} {f : Nat → Nat → AV} {e0 : Int} {ii : Nat} {x : HX} {j : Nat} {i : Bool} {a e p : Int} (hin : ii < m) (hj8 : j < 8) (hr0 : 0 ≤ (avInt (f (0 + ii) 0)).tmod 8) (hjt : ((avInt (f (0 + ii) 0)).tmod 8).toNat = j) (ho : x.O j = ⟨3, i, a, e, p⟩) (hx1 : (IntKind.u64.wrap ↑(BitVec.ofInt 64 (mget x.S.M (key 8 p 3)) &&& BitVec.ofInt 64 1).toNat == 1) = true) (hx2 : (mget x.S.M (key 8 p 3) != (IntKind.u64.wrap ↑(BitVec.ofInt 64 (IntKind.u64.wrap (e * 2)) ||| BitVec.ofInt 64 1).toNat)) = false) (hp : IntKind.i64.wrap (p + 1) = p + 1) (hp8 : p + 1 < 8) {z : FSt}
    (hT1 : decide (hdE (mLoad (mLoad x.S 8 p 3) 1 0 0) > IntKind.u64.wrap (hdE x.S + 1)) = false) (hT2 : decide (hdE (mLoad (mLoad x.S 8 p 3) 1 0 0) < hdE x.S) = false)
    (hrest : FEx Try.prog hdF (hdU m f e0) hdY (hdT1 m f ii ⟨mLoad (mLoad x.S 8 p 3) 1 0 0, fun k => if k = j then ⟨3, i, a, e, p + 1⟩ else x.O k⟩) .norm z) : FEx Try.prog hdF (hdU m f e0) (seqs (headC 3 hdX_) hdY) (hdT m f ii x) .norm z := by
  have hIX : (0 + ((avInt (f (0 + ii) 0)).tmod 8).toNat) = j := by rw [Nat.zero_add]; exact hjt
  have hii1 : (0 + ii).blt m = true := by rw [Nat.zero_add]; simpa [Nat.blt_eq] using hin
  have hii2 : (ii.blt m && decide (0 ≤ Int.ofNat ii)) = true := by rw [Bool.and_eq_true]; exact ⟨by simpa [Nat.blt_eq] using hin, decide_eq_true (by simp)⟩
  have hjb : (0 + ((avInt (f (0 + ii) 0)).tmod 8).toNat).blt 8 = true := by rw [hIX]; simpa [Nat.blt_eq] using hj8
  have hjb2 : (((avInt (f (0 + ii) 0)).tmod 8).toNat.blt 8 && decide (0 ≤ (avInt (f (0 + ii) 0)).tmod 8)) = true := by rw [Bool.and_eq_true, hjt]; exact ⟨by simpa [Nat.blt_eq] using hj8, decide_eq_true hr0⟩
  have hrr : (avInt (f (0 + ii) 0)).tmod 8 = (j : Int) := by rw [← hjt]; exact (Int.toNat_of_nonneg hr0).symm
  have hjt' : ((avInt (f ii 0)).tmod 8).toNat = j := by rw [← hjt, Nat.zero_add]
  have hjw : IntKind.i64.wrap ((avInt (f (0 + ii) 0)).tmod 8) = Int.ofNat j := by rw [hrr, wrap_nat64 _ (by omega) (by omega)]; rfl
  have hw1 : decide (IntKind.i64.wrap ((avInt (f (0 + ii) 0)).tmod 8) ≥ 16) = false := decide_eq_false (by rw [hjw]; simp; omega)
  have hw2 : decide (IntKind.i64.wrap ((avInt (f (0 + ii) 0)).tmod 8) < 0) = false := decide_eq_false (by rw [hjw]; simp)
  have hx4 := hp
  have hx3 : decide (IntKind.i64.wrap (p + 1) ≥ 8) = false := decide_eq_false (by rw [hp]; omega)
  have q0 : lrow fam0 1 (hdT m f ii x).M j (0 + ((avInt (f (0 + ii) 0)).tmod 8).toNat) 0 = AV.symb i := by rw [hIX, lrow_j (mb := hdMb j ⟨3, i, a, e, p⟩) (by show hdMb j (x.O j) = _; rw [ho])]; rfl
  have q1 : lrow fam0 1 (hdT m f ii x).M j (0 + ((avInt (f (0 + ii) 0)).tmod 8).toNat) 1 = AV.sym .u64 a := by rw [hIX, lrow_j (mb := hdMb j ⟨3, i, a, e, p⟩) (by show hdMb j (x.O j) = _; rw [ho])]; rfl
  have q2 : lrow fam0 1 (hdT m f ii x).M j (0 + ((avInt (f (0 + ii) 0)).tmod 8).toNat) 2 = AV.nilp := by rw [hIX, lrow_j (mb := hdMb j ⟨3, i, a, e, p⟩) (by show hdMb j (x.O j) = _; rw [ho])]; rfl
  have q3 : lrow fam0 1 (hdT m f ii x).M j (0 + ((avInt (f (0 + ii) 0)).tmod 8).toNat) 3 = AV.nilp := by rw [hIX, lrow_j (mb := hdMb j ⟨3, i, a, e, p⟩) (by show hdMb j (x.O j) = _; rw [ho])]; rfl
  have q4 : lrow fam0 1 (hdT m f ii x).M j (0 + ((avInt (f (0 + ii) 0)).tmod 8).toNat) 4 = AV.ptr 900 0 0 := by rw [hIX, lrow_j (mb := hdMb j ⟨3, i, a, e, p⟩) (by show hdMb j (x.O j) = _; rw [ho])]; rfl
  have r0 : lrow fam0 1 (hdT m f ii x).M j j 0 = AV.symb i := by rw [lrow_j (mb := hdMb j ⟨3, i, a, e, p⟩) (by show hdMb j (x.O j) = _; rw [ho])]; rfl
  have r1 : lrow fam0 1 (hdT m f ii x).M j j 1 = AV.sym .u64 a := by rw [lrow_j (mb := hdMb j ⟨3, i, a, e, p⟩) (by show hdMb j (x.O j) = _; rw [ho])]; rfl
  have r2 : lrow fam0 1 (hdT m f ii x).M j j 2 = AV.nilp := by rw [lrow_j (mb := hdMb j ⟨3, i, a, e, p⟩) (by show hdMb j (x.O j) = _; rw [ho])]; rfl
  have r3 : lrow fam0 1 (hdT m f ii x).M j j 3 = AV.nilp := by rw [lrow_j (mb := hdMb j ⟨3, i, a, e, p⟩) (by show hdMb j (x.O j) = _; rw [ho])]; rfl
  have r4 : lrow fam0 1 (hdT m f ii x).M j j 4 = AV.ptr 900 0 0 := by rw [lrow_j (mb := hdMb j ⟨3, i, a, e, p⟩) (by show hdMb j (x.O j) = _; rw [ho])]; rfl
  have c0 : (lrow fam0 1 (hdT m f ii x).M j) j 0 = AV.symb i := by exact r0
  have c1 : (lrow fam0 1 (hdT m f ii x).M j) j 1 = AV.sym .u64 a := by exact r1
  have c2 : (lrow fam0 1 (hdT m f ii x).M j) j 2 = AV.nilp := by exact r2
  have c3 : (lrow fam0 1 (hdT m f ii x).M j) j 3 = AV.nilp := by exact r3
  have c4 : (lrow fam0 1 (hdT m f ii x).M j) j 4 = AV.ptr 900 0 0 := by exact r4
  have hrow : ∀ k0, k0 < 8 → rowV (CM.mk 5 fam0 [(5, Src.nm 5), (900, Src.nm 900)]) hdSh 0 ((lrow fam0 1 (hdT m f ii x).M j) k0) (lrow fam0 1 (hdT1 m f ii ⟨mLoad (mLoad x.S 8 p 3) 1 0 0, fun k => if k = j then ⟨3, i, a, e, p + 1⟩ else x.O k⟩).M j k0) := hd_rows (y := ⟨mLoad (mLoad x.S 8 p 3) 1 0 0, fun k => if k = j then ⟨3, i, a, e, p + 1⟩ else x.O k⟩) (x := x) (Nat.le_refl _) (fun k0 hk0 => if_neg hk0) (fun k0 hk0 cc => by rfl)
    (by show rowV _ hdSh 0 _ (fun cc => mrow 1 900 (hdMb j (if j = j then ⟨3, i, a, e, p + 1⟩ else _)) cc); rw [if_pos rfl]; exact ⟨by rw [c0]; rfl, by rw [c1]; rfl, by rw [c2]; exact valV_nilp, by rw [c3]; exact valV_nilp, by rw [c4]; exact valV_ptr (n := 900) rfl, trivial⟩)
  refine fex_pre Ehd_ok hdFam hdSOk j true true (hH_1 m f e0 ii x ⟨mLoad (mLoad x.S 8 p 3) 1 0 0, fun k => if k = j then ⟨3, i, a, e, p + 1⟩ else x.O k⟩ j i a e p) (cj ⟨rfl, rfl, rfl, rfl, rfl, rfl, rfl, rfl, rfl, rfl, rfl, hx4, rfl, rfl, Nat.le_refl _, hrow, rfl, rfl, rfl, rfl, rfl, rfl, rfl, rfl, (fun _ => rfl), rfl, Nat.le_refl _, .inl ⟨rfl, rfl⟩, hT1, hT2, hx3, hx2, hx1, q4, hjb, q4, hjb, q4, hjb, q3, hjb, q2, hjb, hii1, hii2, hii1, hii2, hjb2, hii1, hii2, trivial⟩) (hdG _ _ _ _) (hdG1 _ _ _ _) (fun _ => hj8) (by show hdMb j (x.O j) = _; rw [ho]) (by show hdMb j (if j = j then _ else _) = _; rw [if_pos rfl]) (.inl ⟨rfl, hj8⟩) (fun k hk hne => ⟨hk, by show hdMb k (if k = j then _ else x.O k) = hdMb k (x.O k); rw [if_neg hne]⟩) hrest
theorem hI_1 (m : Nat) (f : Nat → Nat → AV) (e0 : Int) (ii : Nat) (x y : HX) (j : Nat) (i : Bool) (a e p : Int) : roundB Ehd 3000 hdXs (h0F hdF (hdU m f e0)) [(5, Src.nm 5), (900, Src.nm 900)] (locSt hdF (hdT m f ii x) true (hdMb j (HO.mk 3 i a e p)) j []) [Hint.node [(21, [Hint.a AV.nilp, Hint.a AV.nilp, Hint.a (AV.ptr 900 0 0), Hint.a (AV.ptr 900 0 0), Hint.a (AV.ptr 900 0 0), Hint.b false, Hint.b true])], Hint.b false, Hint.b false] (locSt hdF (hdT1 m f ii y) true (hdMb j (HO.mk 4 i a e 8)) j []) =
 some (Ex.norm, [(0 : Nat) = 0,
 m = m,
 (none : Option Nat) = none,
 (0 : Nat) = 0,
 (0 : Nat) = 0,
 (0 : Nat) = 0,
 (8 : Nat) = 8,
 some 8 = some 8,
 Int.ofNat ii = Int.ofNat ii,
 mget x.S.M (key 1 0 0) = hdE y.S,
 e = e,
 IntKind.i64.wrap (p + 1) = 8,
 (8 : Int) = 8,
 false = false,
 (8 : Nat) ≤ (8 : Nat),
 ∀ (i : Nat), i < 8 → rowV (CM.mk 5 fam0 [(5, Src.nm 5), (900, Src.nm 900)]) hdF.sh 0 (lrow fam0 1 (hdT m f ii x).M j i) (lrow fam0 1 (hdT1 m f ii y).M j i),
 IntKind.i64.wrap (IntKind.i64.wrap (x.S.st + 1) + 1) = y.S.st,
 1 = y.S.L.c,
 1 = y.S.L.k,
 0 = y.S.L.a,
 0 = y.S.L.f,
 mget x.S.M (key 1 0 0) = y.S.L.w,
 mget x.S.M (key 1 0 0) = y.S.L.i,
 false = y.S.L.d,
 ∀ (k : List Int), x.S.M k = y.S.M k,
 true = true,
 m ≤ m,
 f = f ∧ plainSh [CK.int IntKind.u8] = true ∨ ∀ (i : Nat), i < m → rowOb [CK.int IntKind.u8] 0 (f i) (f i),
 decide (mget x.S.M (key 1 0 0) > IntKind.u64.wrap (hdE x.S + 1)) = false,
 decide (mget x.S.M (key 1 0 0) < hdE x.S) = false,
 decide (IntKind.i64.wrap (p + 1) ≥ 8) = true,
 (IntKind.u64.wrap ↑(BitVec.ofInt 64 (mget x.S.M (key 8 p 3)) &&& BitVec.ofInt 64 1).toNat == 1) = false,
 lrow fam0 1 (hdT m f ii x).M j (0 + ((avInt (f (0 + ii) 0)).tmod 8).toNat) 4 = AV.ptr 900 0 0,
 (0 + ((avInt (f (0 + ii) 0)).tmod 8).toNat).blt 8 = true,
 lrow fam0 1 (hdT m f ii x).M j (0 + ((avInt (f (0 + ii) 0)).tmod 8).toNat) 4 = AV.ptr 900 0 0,
 (0 + ((avInt (f (0 + ii) 0)).tmod 8).toNat).blt 8 = true,
 lrow fam0 1 (hdT m f ii x).M j (0 + ((avInt (f (0 + ii) 0)).tmod 8).toNat) 4 = AV.ptr 900 0 0,
 (0 + ((avInt (f (0 + ii) 0)).tmod 8).toNat).blt 8 = true,
 lrow fam0 1 (hdT m f ii x).M j (0 + ((avInt (f (0 + ii) 0)).tmod 8).toNat) 3 = AV.nilp,
 (0 + ((avInt (f (0 + ii) 0)).tmod 8).toNat).blt 8 = true,
 lrow fam0 1 (hdT m f ii x).M j (0 + ((avInt (f (0 + ii) 0)).tmod 8).toNat) 2 = AV.nilp,
 (0 + ((avInt (f (0 + ii) 0)).tmod 8).toNat).blt 8 = true,
 (0 + ii).blt m = true,
 (ii.blt m && decide (0 ≤ Int.ofNat ii)) = true,
 (0 + ii).blt m = true,
 (ii.blt m && decide (0 ≤ Int.ofNat ii)) = true,
 (((avInt (f (0 + ii) 0)).tmod 8).toNat.blt 8 && decide (0 ≤ (avInt (f (0 + ii) 0)).tmod 8)) = true,
 (0 + ii).blt m = true,
 (ii.blt m && decide (0 ≤ Int.ofNat ii)) = true]) := by kernel_rfl
theorem hI_ex {m : Nat} {f : Nat → Nat → AV} {e0 : Int} {ii : Nat} {x : HX} {j : Nat} {i : Bool} {a e p : Int} (hin : ii < m) (hj8 : j < 8) (hr0 : 0 ≤ (avInt (f (0 + ii) 0)).tmod 8) (hjt : ((avInt (f (0 + ii) 0)).tmod 8).toNat = j) (ho : x.O j = ⟨3, i, a, e, p⟩) (hx1 : (IntKind.u64.wrap ↑(BitVec.ofInt 64 (mget x.S.M (key 8 p 3)) &&& BitVec.ofInt 64 1).toNat == 1) = false) (hx4 : IntKind.i64.wrap (p + 1) = 8) {z : FSt}
    (hT1 : decide (hdE (mLoad (mLoad x.S 8 p 3) 1 0 0) > IntKind.u64.wrap (hdE x.S + 1)) = false) (hT2 : decide (hdE (mLoad (mLoad x.S 8 p 3) 1 0 0) < hdE x.S) = false)
    (hrest : FEx Try.prog hdF (hdU m f e0) hdY (hdT1 m f ii ⟨mLoad (mLoad x.S 8 p 3) 1 0 0, fun k => if k = j then ⟨4, i, a, e, 8⟩ else x.O k⟩) .norm z) : FEx Try.prog hdF (hdU m f e0) (seqs (headC 3 hdX_) hdY) (hdT m f ii x) .norm z := by
  have hIX : (0 + ((avInt (f (0 + ii) 0)).tmod 8).toNat) = j := by rw [Nat.zero_add]; exact hjt
  have hii1 : (0 + ii).blt m = true := by rw [Nat.zero_add]; simpa [Nat.blt_eq] using hin
  have hii2 : (ii.blt m && decide (0 ≤ Int.ofNat ii)) = true := by rw [Bool.and_eq_true]; exact ⟨by simpa [Nat.blt_eq] using hin, decide_eq_true (by simp)⟩
  have hjb : (0 + ((avInt (f (0 + ii) 0)).tmod 8).toNat).blt 8 = true := by rw [hIX]; simpa [Nat.blt_eq] using hj8
  have hjb2 : (((avInt (f (0 + ii) 0)).tmod 8).toNat.blt 8 && decide (0 ≤ (avInt (f (0 + ii) 0)).tmod 8)) = true := by rw [Bool.and_eq_true, hjt]; exact ⟨by simpa [Nat.blt_eq] using hj8, decide_eq_true hr0⟩
  have hrr : (avInt (f (0 + ii) 0)).tmod 8 = (j : Int) := by rw [← hjt]; exact (Int.toNat_of_nonneg hr0).symm
  have hjt' : ((avInt (f ii 0)).tmod 8).toNat = j := by rw [← hjt, Nat.zero_add]
  have hjw : IntKind.i64.wrap ((avInt (f (0 + ii) 0)).tmod 8) = Int.ofNat j := by rw [hrr, wrap_nat64 _ (by omega) (by omega)]; rfl
  have hw1 : decide (IntKind.i64.wrap ((avInt (f (0 + ii) 0)).tmod 8) ≥ 16) = false := decide_eq_false (by rw [hjw]; simp; omega)
  have hw2 : decide (IntKind.i64.wrap ((avInt (f (0 + ii) 0)).tmod 8) < 0) = false := decide_eq_false (by rw [hjw]; simp)
  have hx3 : decide (IntKind.i64.wrap (p + 1) ≥ 8) = true := decide_eq_true (by rw [hx4]; omega)
  have q0 : lrow fam0 1 (hdT m f ii x).M j (0 + ((avInt (f (0 + ii) 0)).tmod 8).toNat) 0 = AV.symb i := by rw [hIX, lrow_j (mb := hdMb j ⟨3, i, a, e, p⟩) (by show hdMb j (x.O j) = _; rw [ho])]; rfl
  have q1 : lrow fam0 1 (hdT m f ii x).M j (0 + ((avInt (f (0 + ii) 0)).tmod 8).toNat) 1 = AV.sym .u64 a := by rw [hIX, lrow_j (mb := hdMb j ⟨3, i, a, e, p⟩) (by show hdMb j (x.O j) = _; rw [ho])]; rfl
  have q2 : lrow fam0 1 (hdT m f ii x).M j (0 + ((avInt (f (0 + ii) 0)).tmod 8).toNat) 2 = AV.nilp := by rw [hIX, lrow_j (mb := hdMb j ⟨3, i, a, e, p⟩) (by show hdMb j (x.O j) = _; rw [ho])]; rfl
  have q3 : lrow fam0 1 (hdT m f ii x).M j (0 + ((avInt (f (0 + ii) 0)).tmod 8).toNat) 3 = AV.nilp := by rw [hIX, lrow_j (mb := hdMb j ⟨3, i, a, e, p⟩) (by show hdMb j (x.O j) = _; rw [ho])]; rfl
  have q4 : lrow fam0 1 (hdT m f ii x).M j (0 + ((avInt (f (0 + ii) 0)).tmod 8).toNat) 4 = AV.ptr 900 0 0 := by rw [hIX, lrow_j (mb := hdMb j ⟨3, i, a, e, p⟩) (by show hdMb j (x.O j) = _; rw [ho])]; rfl
  have r0 : lrow fam0 1 (hdT m f ii x).M j j 0 = AV.symb i := by rw [lrow_j (mb := hdMb j ⟨3, i, a, e, p⟩) (by show hdMb j (x.O j) = _; rw [ho])]; rfl
  have r1 : lrow fam0 1 (hdT m f ii x).M j j 1 = AV.sym .u64 a := by rw [lrow_j (mb := hdMb j ⟨3, i, a, e, p⟩) (by show hdMb j (x.O j) = _; rw [ho])]; rfl
  have r2 : lrow fam0 1 (hdT m f ii x).M j j 2 = AV.nilp := by rw [lrow_j (mb := hdMb j ⟨3, i, a, e, p⟩) (by show hdMb j (x.O j) = _; rw [ho])]; rfl
  have r3 : lrow fam0 1 (hdT m f ii x).M j j 3 = AV.nilp := by rw [lrow_j (mb := hdMb j ⟨3, i, a, e, p⟩) (by show hdMb j (x.O j) = _; rw [ho])]; rfl
  have r4 : lrow fam0 1 (hdT m f ii x).M j j 4 = AV.ptr 900 0 0 := by rw [lrow_j (mb := hdMb j ⟨3, i, a, e, p⟩) (by show hdMb j (x.O j) = _; rw [ho])]; rfl
  have c0 : (lrow fam0 1 (hdT m f ii x).M j) j 0 = AV.symb i := by exact r0
  have c1 : (lrow fam0 1 (hdT m f ii x).M j) j 1 = AV.sym .u64 a := by exact r1
  have c2 : (lrow fam0 1 (hdT m f ii x).M j) j 2 = AV.nilp := by exact r2
  have c3 : (lrow fam0 1 (hdT m f ii x).M j) j 3 = AV.nilp := by exact r3
  have c4 : (lrow fam0 1 (hdT m f ii x).M j) j 4 = AV.ptr 900 0 0 := by exact r4
  have hrow : ∀ k0, k0 < 8 → rowV (CM.mk 5 fam0 [(5, Src.nm 5), (900, Src.nm 900)]) hdSh 0 ((lrow fam0 1 (hdT m f ii x).M j) k0) (lrow fam0 1 (hdT1 m f ii ⟨mLoad (mLoad x.S 8 p 3) 1 0 0, fun k => if k = j then ⟨4, i, a, e, 8⟩ else x.O k⟩).M j k0) := hd_rows (y := ⟨mLoad (mLoad x.S 8 p 3) 1 0 0, fun k => if k = j then ⟨4, i, a, e, 8⟩ else x.O k⟩) (x := x) (Nat.le_refl _) (fun k0 hk0 => if_neg hk0) (fun k0 hk0 cc => by rfl)
    (by show rowV _ hdSh 0 _ (fun cc => mrow 1 900 (hdMb j (if j = j then ⟨4, i, a, e, 8⟩ else _)) cc); rw [if_pos rfl]; exact ⟨by rw [c0]; rfl, by rw [c1]; rfl, by rw [c2]; exact valV_nilp, by rw [c3]; exact valV_nilp, by rw [c4]; exact valV_ptr (n := 900) rfl, trivial⟩)
  refine fex_pre Ehd_ok hdFam hdSOk j true true (hI_1 m f e0 ii x ⟨mLoad (mLoad x.S 8 p 3) 1 0 0, fun k => if k = j then ⟨4, i, a, e, 8⟩ else x.O k⟩ j i a e p) (cj ⟨rfl, rfl, rfl, rfl, rfl, rfl, rfl, rfl, rfl, rfl, rfl, hx4, rfl, rfl, Nat.le_refl _, hrow, rfl, rfl, rfl, rfl, rfl, rfl, rfl, rfl, (fun _ => rfl), rfl, Nat.le_refl _, .inl ⟨rfl, rfl⟩, hT1, hT2, hx3, hx1, q4, hjb, q4, hjb, q4, hjb, q3, hjb, q2, hjb, hii1, hii2, hii1, hii2, hjb2, hii1, hii2, trivial⟩) (hdG _ _ _ _) (hdG1 _ _ _ _) (fun _ => hj8) (by show hdMb j (x.O j) = _; rw [ho]) (by show hdMb j (if j = j then _ else _) = _; rw [if_pos rfl]) (.inl ⟨rfl, hj8⟩) (fun k hk hne => ⟨hk, by show hdMb k (if k = j then _ else x.O k) = hdMb k (x.O k); rw [if_neg hne]⟩) hrest
theorem hJ_1 (m : Nat) (f : Nat → Nat → AV) (e0 : Int) (ii : Nat) (x y : HX) (j : Nat) (i : Bool) (a e p : Int) : roundB Ehd 3000 hdXs (h0F hdF (hdU m f e0)) [(5, Src.nm 5), (900, Src.nm 900)] (locSt hdF (hdT m f ii x) true (hdMb j (HO.mk 3 i a e p)) j []) [Hint.node [(21, [Hint.a AV.nilp, Hint.a AV.nilp, Hint.a (AV.ptr 900 0 0), Hint.a (AV.ptr 900 0 0), Hint.a (AV.ptr 900 0 0), Hint.b true, Hint.b false, Hint.b true])], Hint.b false, Hint.b false] (locSt hdF (hdT1 m f ii y) true (hdMb j (HO.mk 4 i a e 8)) j []) =
 some (Ex.norm, [(0 : Nat) = 0,
 m = m,
 (none : Option Nat) = none,
 (0 : Nat) = 0,
 (0 : Nat) = 0,
 (0 : Nat) = 0,
 (8 : Nat) = 8,
 some 8 = some 8,
 Int.ofNat ii = Int.ofNat ii,
 mget x.S.M (key 1 0 0) = hdE y.S,
 e = e,
 IntKind.i64.wrap (p + 1) = 8,
 (8 : Int) = 8,
 false = false,
 (8 : Nat) ≤ (8 : Nat),
 ∀ (i : Nat), i < 8 → rowV (CM.mk 5 fam0 [(5, Src.nm 5), (900, Src.nm 900)]) hdF.sh 0 (lrow fam0 1 (hdT m f ii x).M j i) (lrow fam0 1 (hdT1 m f ii y).M j i),
 IntKind.i64.wrap (IntKind.i64.wrap (x.S.st + 1) + 1) = y.S.st,
 1 = y.S.L.c,
 1 = y.S.L.k,
 0 = y.S.L.a,
 0 = y.S.L.f,
 mget x.S.M (key 1 0 0) = y.S.L.w,
 mget x.S.M (key 1 0 0) = y.S.L.i,
 false = y.S.L.d,
 ∀ (k : List Int), x.S.M k = y.S.M k,
 true = true,
 m ≤ m,
 f = f ∧ plainSh [CK.int IntKind.u8] = true ∨ ∀ (i : Nat), i < m → rowOb [CK.int IntKind.u8] 0 (f i) (f i),
 decide (mget x.S.M (key 1 0 0) > IntKind.u64.wrap (hdE x.S + 1)) = false,
 decide (mget x.S.M (key 1 0 0) < hdE x.S) = false,
 decide (IntKind.i64.wrap (p + 1) ≥ 8) = true,
 (mget x.S.M (key 8 p 3) != IntKind.u64.wrap ↑(BitVec.ofInt 64 (IntKind.u64.wrap (e * 2)) ||| BitVec.ofInt 64 1).toNat) = false,
 (IntKind.u64.wrap ↑(BitVec.ofInt 64 (mget x.S.M (key 8 p 3)) &&& BitVec.ofInt 64 1).toNat == 1) = true,
 lrow fam0 1 (hdT m f ii x).M j (0 + ((avInt (f (0 + ii) 0)).tmod 8).toNat) 4 = AV.ptr 900 0 0,
 (0 + ((avInt (f (0 + ii) 0)).tmod 8).toNat).blt 8 = true,
 lrow fam0 1 (hdT m f ii x).M j (0 + ((avInt (f (0 + ii) 0)).tmod 8).toNat) 4 = AV.ptr 900 0 0,
 (0 + ((avInt (f (0 + ii) 0)).tmod 8).toNat).blt 8 = true,
 lrow fam0 1 (hdT m f ii x).M j (0 + ((avInt (f (0 + ii) 0)).tmod 8).toNat) 4 = AV.ptr 900 0 0,
 (0 + ((avInt (f (0 + ii) 0)).tmod 8).toNat).blt 8 = true,
 lrow fam0 1 (hdT m f ii x).M j (0 + ((avInt (f (0 + ii) 0)).tmod 8).toNat) 3 = AV.nilp,
 (0 + ((avInt (f (0 + ii) 0)).tmod 8).toNat).blt 8 = true,
 lrow fam0 1 (hdT m f ii x).M j (0 + ((avInt (f (0 + ii) 0)).tmod 8).toNat) 2 = AV.nilp,
 (0 + ((avInt (f (0 + ii) 0)).tmod 8).toNat).blt 8 = true,
 (0 + ii).blt m = true,
 (ii.blt m && decide (0 ≤ Int.ofNat ii)) = true,
 (0 + ii).blt m = true,
 (ii.blt m && decide (0 ≤ Int.ofNat ii)) = true,
 (((avInt (f (0 + ii) 0)).tmod 8).toNat.blt 8 && decide (0 ≤ (avInt (f (0 + ii) 0)).tmod 8)) = true,
 (0 + ii).blt m = true,
 (ii.blt m && decide (0 ≤ Int.ofNat ii)) = true]) := by kernel_rfl
theorem hJ_ex {m : Nat} {f : Nat → Nat → AV} {e0 : Int} {ii : Nat} {x : HX} {j : Nat} {i : Bool} {a e p : Int} (hin : ii < m) (hj8 : j < 8) (hr0 : 0 ≤ (avInt (f (0 + ii) 0)).tmod 8) (hjt : ((avInt (f (0 + ii) 0)).tmod 8).toNat = j) (ho : x.O j = ⟨3, i, a, e, p⟩) (hx1 : (IntKind.u64.wrap ↑(BitVec.ofInt 64 (mget x.S.M (key 8 p 3)) &&& BitVec.ofInt 64 1).toNat == 1) = true) (hx2 : (mget x.S.M (key 8 p 3) != (IntKind.u64.wrap ↑(BitVec.ofInt 64 (IntKind.u64.wrap (e * 2)) ||| BitVec.ofInt 64 1).toNat)) = false) (hx4 : IntKind.i64.wrap (p + 1) = 8) {z : FSt}
    (hT1 : decide (hdE (mLoad (mLoad x.S 8 p 3) 1 0 0) > IntKind.u64.wrap (hdE x.S + 1)) = false) (hT2 : decide (hdE (mLoad (mLoad x.S 8 p 3) 1 0 0) < hdE x.S) = false)
    (hrest : FEx Try.prog hdF (hdU m f e0) hdY (hdT1 m f ii ⟨mLoad (mLoad x.S 8 p 3) 1 0 0, fun k => if k = j then ⟨4, i, a, e, 8⟩ else x.O k⟩) .norm z) : FEx Try.prog hdF (hdU m f e0) (seqs (headC 3 hdX_) hdY) (hdT m f ii x) .norm z := by
  have hIX : (0 + ((avInt (f (0 + ii) 0)).tmod 8).toNat) = j := by rw [Nat.zero_add]; exact hjt
  have hii1 : (0 + ii).blt m = true := by rw [Nat.zero_add]; simpa [Nat.blt_eq] using hin
  have hii2 : (ii.blt m && decide (0 ≤ Int.ofNat ii)) = true := by rw [Bool.and_eq_true]; exact ⟨by simpa [Nat.blt_eq] using hin, decide_eq_true (by simp)⟩
  have hjb : (0 + ((avInt (f (0 + ii) 0)).tmod 8).toNat).blt 8 = true := by rw [hIX]; simpa [Nat.blt_eq] using hj8
  have hjb2 : (((avInt (f (0 + ii) 0)).tmod 8).toNat.blt 8 && decide (0 ≤ (avInt (f (0 + ii) 0)).tmod 8)) = true := by rw [Bool.and_eq_true, hjt]; exact ⟨by simpa [Nat.blt_eq] using hj8, decide_eq_true hr0⟩
  have hrr : (avInt (f (0 + ii) 0)).tmod 8 = (j : Int) := by rw [← hjt]; exact (Int.toNat_of_nonneg hr0).symm
  have hjt' : ((avInt (f ii 0)).tmod 8).toNat = j := by rw [← hjt, Nat.zero_add]
  have hjw : IntKind.i64.wrap ((avInt (f (0 + ii) 0)).tmod 8) = Int.ofNat j := by rw [hrr, wrap_nat64 _ (by omega) (by omega)]; rfl
  have hw1 : decide (IntKind.i64.wrap ((avInt (f (0 + ii) 0)).tmod 8) ≥ 16) = false := decide_eq_false (by rw [hjw]; simp; omega)
  have hw2 : decide (IntKind.i64.wrap ((avInt (f (0 + ii) 0)).tmod 8) < 0) = false := decide_eq_false (by rw [hjw]; simp)
  have hx3 : decide (IntKind.i64.wrap (p + 1) ≥ 8) = true := decide_eq_true (by rw [hx4]; omega)
  have q0 : lrow fam0 1 (hdT m f ii x).M j (0 + ((avInt (f (0 + ii) 0)).tmod 8).toNat) 0 = AV.symb i := by rw [hIX, lrow_j (mb := hdMb j ⟨3, i, a, e, p⟩) (by show hdMb j (x.O j) = _; rw [ho])]; rfl
  have q1 : lrow fam0 1 (hdT m f ii x).M j (0 + ((avInt (f (0 + ii) 0)).tmod 8).toNat) 1 = AV.sym .u64 a := by rw [hIX, lrow_j (mb := hdMb j ⟨3, i, a, e, p⟩) (by show hdMb j (x.O j) = _; rw [ho])]; rfl
  have q2 : lrow fam0 1 (hdT m f ii x).M j (0 + ((avInt (f (0 + ii) 0)).tmod 8).toNat) 2 = AV.nilp := by rw [hIX, lrow_j (mb := hdMb j ⟨3, i, a, e, p⟩) (by show hdMb j (x.O j) = _; rw [ho])]; rfl
  have q3 : lrow fam0 1 (hdT m f ii x).M j (0 + ((avInt (f (0 + ii) 0)).tmod 8).toNat) 3 = AV.nilp := by rw [hIX, lrow_j (mb := hdMb j ⟨3, i, a, e, p⟩) (by show hdMb j (x.O j) = _; rw [ho])]; rfl
  have q4 : lrow fam0 1 (hdT m f ii x).M j (0 + ((avInt (f (0 + ii) 0)).tmod 8).toNat) 4 = AV.ptr 900 0 0 := by rw [hIX, lrow_j (mb := hdMb j ⟨3, i, a, e, p⟩) (by show hdMb j (x.O j) = _; rw [ho])]; rfl
  have r0 : lrow fam0 1 (hdT m f ii x).M j j 0 = AV.symb i := by rw [lrow_j (mb := hdMb j ⟨3, i, a, e, p⟩) (by show hdMb j (x.O j) = _; rw [ho])]; rfl
  have r1 : lrow fam0 1 (hdT m f ii x).M j j 1 = AV.sym .u64 a := by rw [lrow_j (mb := hdMb j ⟨3, i, a, e, p⟩) (by show hdMb j (x.O j) = _; rw [ho])]; rfl
  have r2 : lrow fam0 1 (hdT m f ii x).M j j 2 = AV.nilp := by rw [lrow_j (mb := hdMb j ⟨3, i, a, e, p⟩) (by show hdMb j (x.O j) = _; rw [ho])]; rfl
  have r3 : lrow fam0 1 (hdT m f ii x).M j j 3 = AV.nilp := by rw [lrow_j (mb := hdMb j ⟨3, i, a, e, p⟩) (by show hdMb j (x.O j) = _; rw [ho])]; rfl
  have r4 : lrow fam0 1 (hdT m f ii x).M j j 4 = AV.ptr 900 0 0 := by rw [lrow_j (mb := hdMb j ⟨3, i, a, e, p⟩) (by show hdMb j (x.O j) = _; rw [ho])]; rfl
  have c0 : (lrow fam0 1 (hdT m f ii x).M j) j 0 = AV.symb i := by exact r0
  have c1 : (lrow fam0 1 (hdT m f ii x).M j) j 1 = AV.sym .u64 a := by exact r1
  have c2 : (lrow fam0 1 (hdT m f ii x).M j) j 2 = AV.nilp := by exact r2
  have c3 : (lrow fam0 1 (hdT m f ii x).M j) j 3 = AV.nilp := by exact r3
  have c4 : (lrow fam0 1 (hdT m f ii x).M j) j 4 = AV.ptr 900 0 0 := by exact r4
  have hrow : ∀ k0, k0 < 8 → rowV (CM.mk 5 fam0 [(5, Src.nm 5), (900, Src.nm 900)]) hdSh 0 ((lrow fam0 1 (hdT m f ii x).M j) k0) (lrow fam0 1 (hdT1 m f ii ⟨mLoad (mLoad x.S 8 p 3) 1 0 0, fun k => if k = j then ⟨4, i, a, e, 8⟩ else x.O k⟩).M j k0) := hd_rows (y := ⟨mLoad (mLoad x.S 8 p 3) 1 0 0, fun k => if k = j then ⟨4, i, a, e, 8⟩ else x.O k⟩) (x := x) (Nat.le_refl _) (fun k0 hk0 => if_neg hk0) (fun k0 hk0 cc => by rfl)
    (by show rowV _ hdSh 0 _ (fun cc => mrow 1 900 (hdMb j (if j = j then ⟨4, i, a, e, 8⟩ else _)) cc); rw [if_pos rfl]; exact ⟨by rw [c0]; rfl, by rw [c1]; rfl, by rw [c2]; exact valV_nilp, by rw [c3]; exact valV_nilp, by rw [c4]; exact valV_ptr (n := 900) rfl, trivial⟩)
  refine fex_pre Ehd_ok hdFam hdSOk j true true (hJ_1 m f e0 ii x ⟨mLoad (mLoad x.S 8 p 3) 1 0 0, fun k => if k = j then ⟨4, i, a, e, 8⟩ else x.O k⟩ j i a e p) (cj ⟨rfl, rfl, rfl, rfl, rfl, rfl, rfl, rfl, rfl, rfl, rfl, hx4, rfl, rfl, Nat.le_refl _, hrow, rfl, rfl, rfl, rfl, rfl, rfl, rfl, rfl, (fun _ => rfl), rfl, Nat.le_refl _, .inl ⟨rfl, rfl⟩, hT1, hT2, hx3, hx2, hx1, q4, hjb, q4, hjb, q4, hjb, q3, hjb, q2, hjb, hii1, hii2, hii1, hii2, hjb2, hii1, hii2, trivial⟩) (hdG _ _ _ _) (hdG1 _ _ _ _) (fun _ => hj8) (by show hdMb j (x.O j) = _; rw [ho]) (by show hdMb j (if j = j then _ else _) = _; rw [if_pos rfl]) (.inl ⟨rfl, hj8⟩) (fun k hk hne => ⟨hk, by show hdMb k (if k = j then _ else x.O k) = hdMb k (x.O k); rw [if_neg hne]⟩) hrest
theorem hK_1 (m : Nat) (f : Nat → Nat → AV) (e0 : Int) (ii : Nat) (x y : HX) (j : Nat) (i : Bool) (a e p : Int) : roundB Ehd 3000 hdXs (h0F hdF (hdU m f e0)) [(5, Src.nm 5)] (locSt hdF (hdT m f ii x) true (hdMb j (HO.mk 4 i a e p)) j []) [Hint.node [(21, [Hint.a AV.nilp, Hint.a AV.nilp, Hint.a (AV.ptr 900 0 0), Hint.a (AV.ptr 900 0 0), Hint.a (AV.ptr 900 0 0)])], Hint.b false, Hint.b false] (locSt hdF (hdT1 m f ii y) true (hdMb j (HO.mk 0 i a 0 0)) j []) =
 some (Ex.norm, [(0 : Nat) = 0,
 m = m,
 (none : Option Nat) = none,
 (0 : Nat) = 0,
 (0 : Nat) = 0,
 (0 : Nat) = 0,
 (8 : Nat) = 8,
 some 8 = some 8,
 Int.ofNat ii = Int.ofNat ii,
 mget (casM x.S.M 1 0 0 e (IntKind.u64.wrap (e + 1))) (key 1 0 0) = hdE y.S,
 false = false,
 (8 : Nat) ≤ (8 : Nat),
 ∀ (i : Nat), i < 8 → rowV (CM.mk 5 fam0 [(5, Src.nm 5)]) hdF.sh 0 (upd (lrow fam0 1 (hdT m f ii x).M j) (0 + ((avInt (f (0 + ii) 0)).tmod 8).toNat) 4 (ofVal (Value.pointer none)).cells i) (lrow fam0 1 (hdT1 m f ii y).M j i),
 IntKind.i64.wrap (IntKind.i64.wrap (x.S.st + 1) + 1) = y.S.st,
 1 = y.S.L.c,
 1 = y.S.L.k,
 0 = y.S.L.a,
 0 = y.S.L.f,
 mget (casM x.S.M 1 0 0 e (IntKind.u64.wrap (e + 1))) (key 1 0 0) = y.S.L.w,
 mget (casM x.S.M 1 0 0 e (IntKind.u64.wrap (e + 1))) (key 1 0 0) = y.S.L.i,
 false = y.S.L.d,
 ∀ (k : List Int), casM x.S.M 1 0 0 e (IntKind.u64.wrap (e + 1)) k = y.S.M k,
 true = true,
 m ≤ m,
 f = f ∧ plainSh [CK.int IntKind.u8] = true ∨ ∀ (i : Nat), i < m → rowOb [CK.int IntKind.u8] 0 (f i) (f i),
 decide (mget (casM x.S.M 1 0 0 e (IntKind.u64.wrap (e + 1))) (key 1 0 0) > IntKind.u64.wrap (hdE x.S + 1)) = false,
 decide (mget (casM x.S.M 1 0 0 e (IntKind.u64.wrap (e + 1))) (key 1 0 0) < hdE x.S) = false,
 (0 + ((avInt (f (0 + ii) 0)).tmod 8).toNat).blt 8 = true,
 (0 : Int) ≤ (1 : Int),
 lrow fam0 1 (hdT m f ii x).M j (0 + ((avInt (f (0 + ii) 0)).tmod 8).toNat) 4 = AV.ptr 900 0 0,
 (0 + ((avInt (f (0 + ii) 0)).tmod 8).toNat).blt 8 = true,
 lrow fam0 1 (hdT m f ii x).M j (0 + ((avInt (f (0 + ii) 0)).tmod 8).toNat) 4 = AV.ptr 900 0 0,
 (0 + ((avInt (f (0 + ii) 0)).tmod 8).toNat).blt 8 = true,
 lrow fam0 1 (hdT m f ii x).M j (0 + ((avInt (f (0 + ii) 0)).tmod 8).toNat) 4 = AV.ptr 900 0 0,
 (0 + ((avInt (f (0 + ii) 0)).tmod 8).toNat).blt 8 = true,
 lrow fam0 1 (hdT m f ii x).M j (0 + ((avInt (f (0 + ii) 0)).tmod 8).toNat) 3 = AV.nilp,
 (0 + ((avInt (f (0 + ii) 0)).tmod 8).toNat).blt 8 = true,
 lrow fam0 1 (hdT m f ii x).M j (0 + ((avInt (f (0 + ii) 0)).tmod 8).toNat) 2 = AV.nilp,
 (0 + ((avInt (f (0 + ii) 0)).tmod 8).toNat).blt 8 = true,
 (0 + ii).blt m = true,
 (ii.blt m && decide (0 ≤ Int.ofNat ii)) = true,
 (0 + ii).blt m = true,
 (ii.blt m && decide (0 ≤ Int.ofNat ii)) = true,
 (((avInt (f (0 + ii) 0)).tmod 8).toNat.blt 8 && decide (0 ≤ (avInt (f (0 + ii) 0)).tmod 8)) = true,
 (0 + ii).blt m = true,
 (ii.blt m && decide (0 ≤ Int.ofNat ii)) = true]) := by kernel_rfl
theorem hK_ex {m : Nat} {f : Nat → Nat → AV} {e0 : Int} {ii : Nat} {x : HX} {j : Nat} {i : Bool} {a e p : Int} (hin : ii < m) (hj8 : j < 8) (hr0 : 0 ≤ (avInt (f (0 + ii) 0)).tmod 8) (hjt : ((avInt (f (0 + ii) 0)).tmod 8).toNat = j) (ho : x.O j = ⟨4, i, a, e, p⟩)  {z : FSt}
    (hT1 : decide (hdE (mLoad (mCas x.S 1 0 0 e (IntKind.u64.wrap (e + 1))) 1 0 0) > IntKind.u64.wrap (hdE x.S + 1)) = false) (hT2 : decide (hdE (mLoad (mCas x.S 1 0 0 e (IntKind.u64.wrap (e + 1))) 1 0 0) < hdE x.S) = false)
    (hrest : FEx Try.prog hdF (hdU m f e0) hdY (hdT1 m f ii ⟨mLoad (mCas x.S 1 0 0 e (IntKind.u64.wrap (e + 1))) 1 0 0, fun k => if k = j then ⟨0, i, a, 0, 0⟩ else x.O k⟩) .norm z) : FEx Try.prog hdF (hdU m f e0) (seqs (headC 3 hdX_) hdY) (hdT m f ii x) .norm z := by
  have hIX : (0 + ((avInt (f (0 + ii) 0)).tmod 8).toNat) = j := by rw [Nat.zero_add]; exact hjt
  have hii1 : (0 + ii).blt m = true := by rw [Nat.zero_add]; simpa [Nat.blt_eq] using hin
  have hii2 : (ii.blt m && decide (0 ≤ Int.ofNat ii)) = true := by rw [Bool.and_eq_true]; exact ⟨by simpa [Nat.blt_eq] using hin, decide_eq_true (by simp)⟩
  have hjb : (0 + ((avInt (f (0 + ii) 0)).tmod 8).toNat).blt 8 = true := by rw [hIX]; simpa [Nat.blt_eq] using hj8
  have hjb2 : (((avInt (f (0 + ii) 0)).tmod 8).toNat.blt 8 && decide (0 ≤ (avInt (f (0 + ii) 0)).tmod 8)) = true := by rw [Bool.and_eq_true, hjt]; exact ⟨by simpa [Nat.blt_eq] using hj8, decide_eq_true hr0⟩
  have hrr : (avInt (f (0 + ii) 0)).tmod 8 = (j : Int) := by rw [← hjt]; exact (Int.toNat_of_nonneg hr0).symm
  have hjt' : ((avInt (f ii 0)).tmod 8).toNat = j := by rw [← hjt, Nat.zero_add]
  have hjw : IntKind.i64.wrap ((avInt (f (0 + ii) 0)).tmod 8) = Int.ofNat j := by rw [hrr, wrap_nat64 _ (by omega) (by omega)]; rfl
  have hw1 : decide (IntKind.i64.wrap ((avInt (f (0 + ii) 0)).tmod 8) ≥ 16) = false := decide_eq_false (by rw [hjw]; simp; omega)
  have hw2 : decide (IntKind.i64.wrap ((avInt (f (0 + ii) 0)).tmod 8) < 0) = false := decide_eq_false (by rw [hjw]; simp)
  have q0 : lrow fam0 1 (hdT m f ii x).M j (0 + ((avInt (f (0 + ii) 0)).tmod 8).toNat) 0 = AV.symb i := by rw [hIX, lrow_j (mb := hdMb j ⟨4, i, a, e, p⟩) (by show hdMb j (x.O j) = _; rw [ho])]; rfl
  have q1 : lrow fam0 1 (hdT m f ii x).M j (0 + ((avInt (f (0 + ii) 0)).tmod 8).toNat) 1 = AV.sym .u64 a := by rw [hIX, lrow_j (mb := hdMb j ⟨4, i, a, e, p⟩) (by show hdMb j (x.O j) = _; rw [ho])]; rfl
  have q2 : lrow fam0 1 (hdT m f ii x).M j (0 + ((avInt (f (0 + ii) 0)).tmod 8).toNat) 2 = AV.nilp := by rw [hIX, lrow_j (mb := hdMb j ⟨4, i, a, e, p⟩) (by show hdMb j (x.O j) = _; rw [ho])]; rfl
  have q3 : lrow fam0 1 (hdT m f ii x).M j (0 + ((avInt (f (0 + ii) 0)).tmod 8).toNat) 3 = AV.nilp := by rw [hIX, lrow_j (mb := hdMb j ⟨4, i, a, e, p⟩) (by show hdMb j (x.O j) = _; rw [ho])]; rfl
  have q4 : lrow fam0 1 (hdT m f ii x).M j (0 + ((avInt (f (0 + ii) 0)).tmod 8).toNat) 4 = AV.ptr 900 0 0 := by rw [hIX, lrow_j (mb := hdMb j ⟨4, i, a, e, p⟩) (by show hdMb j (x.O j) = _; rw [ho])]; rfl
  have r0 : lrow fam0 1 (hdT m f ii x).M j j 0 = AV.symb i := by rw [lrow_j (mb := hdMb j ⟨4, i, a, e, p⟩) (by show hdMb j (x.O j) = _; rw [ho])]; rfl
  have r1 : lrow fam0 1 (hdT m f ii x).M j j 1 = AV.sym .u64 a := by rw [lrow_j (mb := hdMb j ⟨4, i, a, e, p⟩) (by show hdMb j (x.O j) = _; rw [ho])]; rfl
  have r2 : lrow fam0 1 (hdT m f ii x).M j j 2 = AV.nilp := by rw [lrow_j (mb := hdMb j ⟨4, i, a, e, p⟩) (by show hdMb j (x.O j) = _; rw [ho])]; rfl
  have r3 : lrow fam0 1 (hdT m f ii x).M j j 3 = AV.nilp := by rw [lrow_j (mb := hdMb j ⟨4, i, a, e, p⟩) (by show hdMb j (x.O j) = _; rw [ho])]; rfl
  have r4 : lrow fam0 1 (hdT m f ii x).M j j 4 = AV.ptr 900 0 0 := by rw [lrow_j (mb := hdMb j ⟨4, i, a, e, p⟩) (by show hdMb j (x.O j) = _; rw [ho])]; rfl
  have c0 : (upd (lrow fam0 1 (hdT m f ii x).M j) (0 + ((avInt (f (0 + ii) 0)).tmod 8).toNat) 4 [.nilp]) j 0 = AV.symb i := by simp [upd, nth, hjt', r0]
  have c1 : (upd (lrow fam0 1 (hdT m f ii x).M j) (0 + ((avInt (f (0 + ii) 0)).tmod 8).toNat) 4 [.nilp]) j 1 = AV.sym .u64 a := by simp [upd, nth, hjt', r1]
  have c2 : (upd (lrow fam0 1 (hdT m f ii x).M j) (0 + ((avInt (f (0 + ii) 0)).tmod 8).toNat) 4 [.nilp]) j 2 = AV.nilp := by simp [upd, nth, hjt', r2]
  have c3 : (upd (lrow fam0 1 (hdT m f ii x).M j) (0 + ((avInt (f (0 + ii) 0)).tmod 8).toNat) 4 [.nilp]) j 3 = AV.nilp := by simp [upd, nth, hjt', r3]
  have c4 : (upd (lrow fam0 1 (hdT m f ii x).M j) (0 + ((avInt (f (0 + ii) 0)).tmod 8).toNat) 4 [.nilp]) j 4 = AV.nilp := by simp [upd, nth, hjt']
  have hrow : ∀ k0, k0 < 8 → rowV (CM.mk 5 fam0 [(5, Src.nm 5)]) hdSh 0 ((upd (lrow fam0 1 (hdT m f ii x).M j) (0 + ((avInt (f (0 + ii) 0)).tmod 8).toNat) 4 [.nilp]) k0) (lrow fam0 1 (hdT1 m f ii ⟨mLoad (mCas x.S 1 0 0 e (IntKind.u64.wrap (e + 1))) 1 0 0, fun k => if k = j then ⟨0, i, a, 0, 0⟩ else x.O k⟩).M j k0) := hd_rows (y := ⟨mLoad (mCas x.S 1 0 0 e (IntKind.u64.wrap (e + 1))) 1 0 0, fun k => if k = j then ⟨0, i, a, 0, 0⟩ else x.O k⟩) (x := x) (Nat.le_refl _) (fun k0 hk0 => if_neg hk0) (fun k0 hk0 cc => by simp [upd, hjt', hk0]; rfl)
    (by show rowV _ hdSh 0 _ (fun cc => mrow 1 900 (hdMb j (if j = j then ⟨0, i, a, 0, 0⟩ else _)) cc); rw [if_pos rfl]; exact ⟨by rw [c0]; rfl, by rw [c1]; rfl, by rw [c2]; exact valV_nilp, by rw [c3]; exact valV_nilp, by rw [c4]; exact valV_nilp, trivial⟩)
  refine fex_pre Ehd_ok hdFam hdSOk j true true (hK_1 m f e0 ii x ⟨mLoad (mCas x.S 1 0 0 e (IntKind.u64.wrap (e + 1))) 1 0 0, fun k => if k = j then ⟨0, i, a, 0, 0⟩ else x.O k⟩ j i a e p) (cj ⟨rfl, rfl, rfl, rfl, rfl, rfl, rfl, rfl, rfl, rfl, rfl, Nat.le_refl _, hrow, rfl, rfl, rfl, rfl, rfl, rfl, rfl, rfl, (fun _ => rfl), rfl, Nat.le_refl _, .inl ⟨rfl, rfl⟩, hT1, hT2, hjb, (by decide), q4, hjb, q4, hjb, q4, hjb, q3, hjb, q2, hjb, hii1, hii2, hii1, hii2, hjb2, hii1, hii2, trivial⟩) (hdG _ _ _ _) (hdG1 _ _ _ _) (fun _ => hj8) (by show hdMb j (x.O j) = _; rw [ho]) (by show hdMb j (if j = j then _ else _) = _; rw [if_pos rfl]) (.inl ⟨rfl, hj8⟩) (fun k hk hne => ⟨hk, by show hdMb k (if k = j then _ else x.O k) = hdMb k (x.O k); rw [if_neg hne]⟩) hrest
end Go.Proofs.Ytmlfmmnnbdlabaa
