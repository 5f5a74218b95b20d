/-
  HistsPlay, HistsOrder: definitions.
-/
import Derived.Test.YtnecknppajbcdaaHs4
set_option linter.unusedSimpArgs false
set_option linter.unusedVariables false
namespace Go.Proofs.Ytnecknppajbcdaa
open Go.Ev
noncomputable def EH3 : Env := envG Try.prog [(23, rawSP hlivesSpec), (25, orSP (locSP begSpec) (altSP beg0tSpec beg0fSpec)), (26, locSP rbegSpec), (27, orSP (locSP pntSpec) (locSP pnt0Spec)), (28, locSP rpntSpec), (29, orSP (locSP henSpec) (locSP hen0Spec)), (30, locSP rendSpec), (31, locSP allSpec), (32, locSP samSpec), (33, locSP undSpec), (34, locSP rundSpec)]
theorem EH3_ok : EnvOk EH3 := envG_ok hgood ⟨rawSP_ok hlivesSpec_ok, orSP_ok (locSP_ok begSpec_ok) (altSP_ok beg0tSpec_ok beg0fSpec_ok), locSP_ok rbegSpec_ok, orSP_ok (locSP_ok pntSpec_ok) (locSP_ok pnt0Spec_ok), locSP_ok rpntSpec_ok, orSP_ok (locSP_ok henSpec_ok) (locSP_ok hen0Spec_ok), locSP_ok rendSpec_ok, locSP_ok allSpec_ok, locSP_ok samSpec_ok, locSP_ok undSpec_ok, locSP_ok rundSpec_ok, trivial⟩
def aSh : List CK := [.int .u8, .int .i64, .int .i64, .int .u8, .int .u8, .int .u64, .int .u64, .int .i64]
structure HS where
  n : Nat
  C : Nat → Cl
  U : List Int → Option Int
  last : Int
structure Ac where
  k : Int
  t : Int
  c : Int
  o : Int
  a : Int
  ky : Int
  va : Int
  s : Int
def acOf (r : Nat → AV) : Ac := ⟨avInt (r 0), avInt (r 1), avInt (r 2), avInt (r 3), avInt (r 4), avInt (r 5), avInt (r 6), avInt (r 7)⟩
def acR (x : Ac) : Nat → AV := fun j => match j with
  | 0 => .sym .u8 x.k
  | 1 => .sym .i64 x.t
  | 2 => .sym .i64 x.c
  | 3 => .sym .u8 x.o
  | 4 => .sym .u8 x.a
  | 5 => .sym .u64 x.ky
  | 6 => .sym .u64 x.va
  | 7 => .sym .i64 x.s
  | _ => .top
def acF (A : Nat → Ac) : Nat → Nat → AV := fun i j => acR (A i) j
theorem row_ac {f : Nat → AV} {x : Ac} (h : acOf f = x) : rowOb aSh 0 f (acR x) := by
  subst h; exact ⟨rfl, rfl, rfl, rfl, rfl, rfl, rfl, rfl, trivial⟩
def hBeg (S : HS) (x : Ac) : HS :=
  ⟨onOk (bgE S.last (undI S.U x.t) x.t x.o x.s) (S.n + 1) S.n, snocC S.n S.C (mkCl x.t x.o x.ky x.va x.s), onOk (bgE S.last (undI S.U x.t) x.t x.o x.s) (setKey S.U [x.t] (some (Int.ofNat S.n))) S.U, onOk (bgE S.last (undI S.U x.t) x.t x.o x.s) x.s S.last⟩
def hPnt (S : HS) (x : Ac) : HS :=
  ⟨S.n, ptC (ptE S.n S.C x.c x.a x.s) S.C x.c x.a x.va x.s, S.U, onOk (ptE S.n S.C x.c x.a x.s) (if x.s > S.last then x.s else S.last) S.last⟩
def hEnd (S : HS) (x : Ac) : HS :=
  ⟨S.n, enC (enE S.n S.C S.last x.c x.s) S.C x.c x.s, onOk (enE S.n S.C S.last x.c x.s) (setKey S.U [(S.C x.c.toNat).th] none) S.U, onOk (enE S.n S.C S.last x.c x.s) x.s S.last⟩
def hStp (S : HS) (x : Ac) : HS := if x.k.tmod 3 = 0 then hBeg S x else if x.k.tmod 3 = 1 then hPnt S x else hEnd S x
def hN (A : Nat → Ac) : Nat → HS
  | 0 => ⟨0, fun _ => ⟨0, 0, 0, 0, 0, 0, 0, 0, 0⟩, fun _ => none, 0⟩
  | i + 1 => hStp (hN A i) (A (0 + i))
inductive HI where
  | a (i : Nat)
  | b (i : Nat) (S : HS)
section
variable (m : Nat) (f : Nat → Nat → AV)
def inA (i : Nat) : Ac := acOf (f i)
noncomputable def hpHd : List AV := [.ss 8 1 0 m none, .top, .bool false, .ptr 2 0 0, .ptr 3 0 0]
noncomputable def hpU : St := ⟨hpHd m ++ [.int .i64 0] ++ List.replicate 139 .top, ⟨[(3, .cells 2 [.nils, .int .i64 0]), (2, .cells 3 [.nils, .nilm, .int .i64 0]), (1, .arr 8 aSh true m f)], 4, gnm 0, [], [], [], false⟩⟩
variable (A : Nat → Ac)
def hpZ : Nat → Nat → AV := fun _ _ => .top
def hOne (x : Ac) : HS := ⟨1, fun _ => mkCl x.t x.o x.ky x.va x.s, setKey (fun _ => none) [x.t] (some 0), x.s⟩
noncomputable def hpHA : List (Nat × AO) := [(2, .cells 3 [.nils, .nilm, .int .i64 0]), (3, .cells 2 [.ss 9 6 0 0 none, .int .i64 0]), (6, .arr 9 dSh false 0 hpZ), (1, .arr 8 aSh true m (acF A))]
noncomputable def hpA (i : Nat) : St := ⟨hpHd m ++ [.sym .i64 (Int.ofNat i)] ++ List.replicate 139 .top, ⟨hpHA m A, 7, gnm 0, [], [], [2, 3], false⟩⟩
noncomputable def hpHB (S : HS) : List (Nat × AO) := [(2, .cells 3 [.ss 9 4 0 S.n none, .map 5, .sym .i64 S.last]), (4, .arr 9 cSh false S.n (cF S.C)), (5, .map 76 S.U), (3, .cells 2 [.ss 9 6 0 S.n none, .sym .i64 S.last]), (6, .arr 9 dSh false S.n (dF S.C)), (1, .arr 8 aSh true m (acF A))]
noncomputable def hpB (i : Nat) (S : HS) : St := ⟨hpHd m ++ [.sym .i64 (Int.ofNat i)] ++ List.replicate 139 .top, ⟨hpHB m A S, 7, gnm 0, [], [], [2, 3], false⟩⟩
noncomputable abbrev lcH1 := loopAt Try.prog 7 0
noncomputable abbrev lcH2 := loopAt Try.prog 7 1
noncomputable def hpXA : St := ⟨hpHd m ++ List.replicate 140 .top, ⟨hpHA m A, 7, gnm 0, [], [], [2, 3], false⟩⟩
noncomputable def hpXB (S : HS) : St := ⟨hpHd m ++ List.replicate 140 .top, ⟨hpHB m A S, 7, gnm 0, [], [], [2, 3], false⟩⟩
-- the loop that spoils what was told
def spHd (ii : Nat) : List AV := [.ss 8 2 0 m none, .top, .bool false, .ptr 3 0 0, .ptr 4 0 0, .sym .i64 (Int.ofNat ii)]
noncomputable def spU (ii n : Nat) (C : Nat → Cl) : St := ⟨spHd m ii ++ [.top, .top, .top, .top, .top, .ss 9 1 0 n (some n), .int .i64 0] ++ List.replicate 132 .top, ⟨[(1, .arr 9 cSh false n (cF C))], 5, gnm 0, [], [], [], false⟩⟩
noncomputable def spT (ii n : Nat) (C : Nat → Cl) (k : Nat) : St := ⟨spHd m ii ++ [.top, .top, .top, .top, .top, .ss 9 1 0 n (some n), .sym .i64 (Int.ofNat k)] ++ List.replicate 132 .top, ⟨[(1, .arr 9 cSh false n (cF C))], 5, gnm 0, [], [], [1], false⟩⟩
noncomputable def spS (ii : Nat) : St := ⟨spHd m ii ++ List.replicate 139 .top, ⟨[], 5, gnm 0, [], [], [1], false⟩⟩
noncomputable def spL (ii n : Nat) (C : Nat → Cl) : Prop := LoopHolds Try.prog lcH2 (spU m ii n C) (.exit 3) (spS m ii)
def thC (C : Nat → Cl) (k : Nat) : Nat → Cl := fun i => if i = k then ⟨-7, (C i).op, (C i).ky, (C i).va, (C i).an, (C i).gt, (C i).fr, (C i).pt, (C i).to⟩ else C i
def spTm (ii : Nat) : List AV := spHd m ii ++ List.replicate 139 .top
end
end Go.Proofs.Ytnecknppajbcdaa
