/-
  BlocksPlay: its loop.
-/
import Derived.Test.YtlpcdjhojfopjaaGreatDoorZBqDef
set_option linter.unusedSimpArgs false
set_option linter.unusedVariables false
namespace Go.Proofs.YtlpcdjhojfopjaaGreatDoor
open Go.Ev
abbrev xD (x : GX BO) : DM := dOf x.R.D.n (wdF x.R.D.W)
abbrev wI := IntKind.i64.wrap
abbrev wU := IntKind.u64.wrap
def b0Y (x : GX BO) (j : Nat) (b e : Int) : GX BO := gPut x x.S x.R j (BO.mk 0 b e)
def b1aY (x : GX BO) (j : Nat) (b e : Int) : GX BO := gPut x (mLoad x.S 5 0 0) (rLoad x.R 5 0 0) j (BO.mk 0 (mget x.S.M (key 5 0 0)) 5)
def b1bY (x : GX BO) (j : Nat) (b e : Int) : GX BO := gPut x (mLoad x.S 5 0 0) (rLoad x.R 5 0 0) j (BO.mk 2 (mget x.S.M (key 5 0 0)) e)
def b2aY (x : GX BO) (j : Nat) (b e : Int) : GX BO := gPut x (mCas x.S 5 0 0 b (wU (b + 1))) (rCas x.R 5 0 0 b (wU (b + 1))) j (BO.mk 3 b e)
def b2bY (x : GX BO) (j : Nat) (b e : Int) : GX BO := gPut x (mCas x.S 5 0 0 b (wU (b + 1))) (rCas x.R 5 0 0 b (wU (b + 1))) j (BO.mk 1 b e)
def b3Y (x : GX BO) (j : Nat) (b e : Int) : GX BO := gPut x (mCas x.S 7 (wI b) 0 (bk 0 true) (bk 0 false)) (rCas x.R 7 (wI b) 0 (bk 0 true) (bk 0 false)) j (BO.mk 0 b 0)
def b4Y (x : GX BO) (j : Nat) (b e : Int) : GX BO := gPut x x.S x.R j (BO.mk 4 b e)
def b5aY (x : GX BO) (j : Nat) (b e : Int) : GX BO := gPut x (mLoad x.S 5 0 0) (rLoad x.R 5 0 0) j (BO.mk 4 (mget x.S.M (key 5 0 0)) 4)
def b5bY (x : GX BO) (j : Nat) (b e : Int) : GX BO := gPut x (mLoad x.S 5 0 0) (rLoad x.R 5 0 0) j (BO.mk 4 (mget x.S.M (key 5 0 0)) 1)
def b5cY (x : GX BO) (j : Nat) (b e : Int) : GX BO := gPut x (mLoad x.S 5 0 0) (rLoad x.R 5 0 0) j (BO.mk 6 (mget x.S.M (key 5 0 0)) e)
def b6aY (x : GX BO) (j : Nat) (b e : Int) : GX BO := gPut x (mCas x.S 7 (wI (wU (b - 1))) 0 (bk 0 false) (bk 0 true)) (rCas x.R 7 (wI (wI b - 1)) 0 (bk 0 false) (bk 0 true)) j (BO.mk 7 b e)
def b6bY (x : GX BO) (j : Nat) (b e : Int) : GX BO := gPut x (mCas x.S 7 (wI (wU (b - 1))) 0 (bk 0 false) (bk 0 true)) (rCas x.R 7 (wI (wI b - 1)) 0 (bk 0 false) (bk 0 true)) j (BO.mk 4 b 7)
def b7aY (x : GX BO) (j : Nat) (b e : Int) : GX BO := gPut x (mCas x.S 5 0 0 b (wU (b - 1))) (rCas x.R 5 0 0 b (wU (b - 1))) j (BO.mk 4 b 0)
def b7bY (x : GX BO) (j : Nat) (b e : Int) : GX BO := gPut x (mCas x.S 5 0 0 b (wU (b - 1))) (rCas x.R 5 0 0 b (wU (b - 1))) j (BO.mk 8 b e)
def b8Y (x : GX BO) (j : Nat) (b e : Int) : GX BO := gPut x (mCas x.S 7 (wI (wU (b - 1))) 0 (bk 0 true) (bk 0 false)) (rCas x.R 7 (wI (wI b - 1)) 0 (bk 0 true) (bk 0 false)) j (BO.mk 4 b 7)
theorem ba0_1 (m : Nat) (f : Nat → Nat → AV) (q : Nat) (h : Nat → Nat → AV) (ii : Nat) (x : GX BO) : roundB Ebp 3000 bpL (h0F bpF (bpU m f q h)) [(8, Src.nm 1005), (9, Src.nm 9), (900, Src.nm 1001), (901, Src.nm 1002)] (locSt bpF (bpT m f ii x) false (bpMb (x.O x.n)) x.n []) [Hint.b true, Hint.l 0] (locSt bpF (bpT m f (ii + 1) (gAdd x (BO.mk 1 0 0))) true (bpMb (BO.mk 1 0 0)) x.n []) =
 some (Ex.norm, [(0 : Nat) = 0,
 m = m,
 (none : Option Nat) = none,
 (0 : Nat) = 0,
 (0 : Nat) = 0,
 (0 : Nat) = 0,
 x.n + 1 = (gAdd x (BO.mk 1 0 0)).n,
 (none : Option Nat) = none,
 wI (Int.ofNat ii + 1) = Int.ofNat (ii + 1),
 (0 : Int) = 0,
 (0 : Int) = 0,
 (0 : Int) = 0,
 (0 : Int) = 0,
 false = false,
 (bpT m f (ii + 1) (gAdd x (BO.mk 1 0 0))).n ≤ x.n + 1,
 ∀ (i : Nat), i < (bpT m f (ii + 1) (gAdd x (BO.mk 1 0 0))).n → rowV (CM.mk 8 fam0 [(8, Src.nm 1005), (9, Src.nm 9), (900, Src.nm 1001), (901, Src.nm 1002)]) bpF.sh 0 (fun j => if i < x.n then lrow fam0 2 (bpT m f ii x).M x.n (0 + i) j else rowsOf 3 [oneOrAll [AV.ptr 1001 0 0], cellOf (Value.pointer none), oneOrAll [AV.ptr 1002 0 0]] (i - x.n) j) (lrow fam0 2 (bpT m f (ii + 1) (gAdd x (BO.mk 1 0 0))).M x.n i),
 (0 : Nat) = 0,
 (0 : Nat) = 0,
 (0 : Nat) = 0,
 (0 : Nat) = 0,
 true = true,
 (1 : Nat) ≤ (1 : Nat),
 tabF tab = tabF tab ∧ plainSh (List.map kindOfV tab) = true ∨ ∀ (i : Nat), i < 1 → rowOb (List.map kindOfV tab) 0 (tabF tab i) (tabF tab i),
 true = true,
 m ≤ m,
 f = f ∧ plainSh asSh = true ∨ ∀ (i : Nat), i < m → rowOb asSh 0 (f i) (f i),
 x.S.st = (gAdd x (BO.mk 1 0 0)).S.st,
 x.S.L.c = (gAdd x (BO.mk 1 0 0)).S.L.c,
 x.S.L.k = (gAdd x (BO.mk 1 0 0)).S.L.k,
 x.S.L.a = (gAdd x (BO.mk 1 0 0)).S.L.a,
 x.S.L.f = (gAdd x (BO.mk 1 0 0)).S.L.f,
 x.S.L.w = (gAdd x (BO.mk 1 0 0)).S.L.w,
 x.S.L.i = (gAdd x (BO.mk 1 0 0)).S.L.i,
 x.S.L.d = (gAdd x (BO.mk 1 0 0)).S.L.d,
 ∀ (k : List Int), x.S.M k = (gAdd x (BO.mk 1 0 0)).S.M k,
 (0 : Nat) = 0,
 x.R.D.n = (gAdd x (BO.mk 1 0 0)).R.D.n,
 (none : Option Nat) = none,
 x.R.st = (gAdd x (BO.mk 1 0 0)).R.st,
 x.R.L.c = (gAdd x (BO.mk 1 0 0)).R.L.c,
 x.R.L.k = (gAdd x (BO.mk 1 0 0)).R.L.k,
 x.R.L.a = (gAdd x (BO.mk 1 0 0)).R.L.a,
 x.R.L.f = (gAdd x (BO.mk 1 0 0)).R.L.f,
 x.R.L.w = (gAdd x (BO.mk 1 0 0)).R.L.w,
 x.R.L.i = (gAdd x (BO.mk 1 0 0)).R.L.i,
 x.R.L.d = (gAdd x (BO.mk 1 0 0)).R.L.d,
 false = false,
 (gAdd x (BO.mk 1 0 0)).R.D.n ≤ x.R.D.n,
 wdF (gAdd x (BO.mk 1 0 0)).R.D.W = wdF x.R.D.W ∧ plainSh wSh = true ∨ ∀ (i : Nat), i < (gAdd x (BO.mk 1 0 0)).R.D.n → rowOb wSh 0 (wdF x.R.D.W i) (wdF (gAdd x (BO.mk 1 0 0)).R.D.W i),
 Both x.S x.R,
 ((x.n + 1) * 24).ble 70368744177664 = true,
 (0 + x.n).ble (bpT m f ii x).n = true,
 (avInt (f (0 + ii) 0)).tmod 6 = 0,
 (0 + ii).blt m = true,
 (ii.blt m && decide (0 ≤ Int.ofNat ii)) = true,
 decide (Int.ofNat ii < Int.ofNat m) = true]) := by kernel_rfl
theorem ba1_1 (m : Nat) (f : Nat → Nat → AV) (q : Nat) (h : Nat → Nat → AV) (ii : Nat) (x : GX BO) : roundB Ebp 3000 bpL (h0F bpF (bpU m f q h)) [(8, Src.nm 1005), (9, Src.nm 9), (900, Src.nm 1001), (901, Src.nm 1002)] (locSt bpF (bpT m f ii x) false (bpMb (x.O x.n)) x.n []) [Hint.b true, Hint.l 1] (locSt bpF (bpT m f (ii + 1) (gAdd x (BO.mk 5 0 0))) true (bpMb (BO.mk 5 0 0)) x.n []) =
 some (Ex.norm, [(0 : Nat) = 0,
 m = m,
 (none : Option Nat) = none,
 (0 : Nat) = 0,
 (0 : Nat) = 0,
 (0 : Nat) = 0,
 x.n + 1 = (gAdd x (BO.mk 5 0 0)).n,
 (none : Option Nat) = none,
 wI (Int.ofNat ii + 1) = Int.ofNat (ii + 1),
 (0 : Int) = 0,
 (0 : Int) = 0,
 (0 : Int) = 0,
 (0 : Int) = 0,
 false = false,
 (bpT m f (ii + 1) (gAdd x (BO.mk 5 0 0))).n ≤ x.n + 1,
 ∀ (i : Nat), i < (bpT m f (ii + 1) (gAdd x (BO.mk 5 0 0))).n → rowV (CM.mk 8 fam0 [(8, Src.nm 1005), (9, Src.nm 9), (900, Src.nm 1001), (901, Src.nm 1002)]) bpF.sh 0 (fun j => if i < x.n then lrow fam0 2 (bpT m f ii x).M x.n (0 + i) j else rowsOf 3 [cellOf (Value.pointer none), oneOrAll [AV.ptr 1001 0 0], oneOrAll [AV.ptr 1002 0 0]] (i - x.n) j) (lrow fam0 2 (bpT m f (ii + 1) (gAdd x (BO.mk 5 0 0))).M x.n i),
 (0 : Nat) = 0,
 (0 : Nat) = 0,
 (0 : Nat) = 0,
 (0 : Nat) = 0,
 true = true,
 (1 : Nat) ≤ (1 : Nat),
 tabF tab = tabF tab ∧ plainSh (List.map kindOfV tab) = true ∨ ∀ (i : Nat), i < 1 → rowOb (List.map kindOfV tab) 0 (tabF tab i) (tabF tab i),
 true = true,
 m ≤ m,
 f = f ∧ plainSh asSh = true ∨ ∀ (i : Nat), i < m → rowOb asSh 0 (f i) (f i),
 x.S.st = (gAdd x (BO.mk 5 0 0)).S.st,
 x.S.L.c = (gAdd x (BO.mk 5 0 0)).S.L.c,
 x.S.L.k = (gAdd x (BO.mk 5 0 0)).S.L.k,
 x.S.L.a = (gAdd x (BO.mk 5 0 0)).S.L.a,
 x.S.L.f = (gAdd x (BO.mk 5 0 0)).S.L.f,
 x.S.L.w = (gAdd x (BO.mk 5 0 0)).S.L.w,
 x.S.L.i = (gAdd x (BO.mk 5 0 0)).S.L.i,
 x.S.L.d = (gAdd x (BO.mk 5 0 0)).S.L.d,
 ∀ (k : List Int), x.S.M k = (gAdd x (BO.mk 5 0 0)).S.M k,
 (0 : Nat) = 0,
 x.R.D.n = (gAdd x (BO.mk 5 0 0)).R.D.n,
 (none : Option Nat) = none,
 x.R.st = (gAdd x (BO.mk 5 0 0)).R.st,
 x.R.L.c = (gAdd x (BO.mk 5 0 0)).R.L.c,
 x.R.L.k = (gAdd x (BO.mk 5 0 0)).R.L.k,
 x.R.L.a = (gAdd x (BO.mk 5 0 0)).R.L.a,
 x.R.L.f = (gAdd x (BO.mk 5 0 0)).R.L.f,
 x.R.L.w = (gAdd x (BO.mk 5 0 0)).R.L.w,
 x.R.L.i = (gAdd x (BO.mk 5 0 0)).R.L.i,
 x.R.L.d = (gAdd x (BO.mk 5 0 0)).R.L.d,
 false = false,
 (gAdd x (BO.mk 5 0 0)).R.D.n ≤ x.R.D.n,
 wdF (gAdd x (BO.mk 5 0 0)).R.D.W = wdF x.R.D.W ∧ plainSh wSh = true ∨ ∀ (i : Nat), i < (gAdd x (BO.mk 5 0 0)).R.D.n → rowOb wSh 0 (wdF x.R.D.W i) (wdF (gAdd x (BO.mk 5 0 0)).R.D.W i),
 Both x.S x.R,
 ((x.n + 1) * 24).ble 70368744177664 = true,
 (0 + x.n).ble (bpT m f ii x).n = true,
 (avInt (f (0 + ii) 0)).tmod 6 = 1,
 (0 + ii).blt m = true,
 (ii.blt m && decide (0 ≤ Int.ofNat ii)) = true,
 decide (Int.ofNat ii < Int.ofNat m) = true]) := by kernel_rfl
theorem bs0_1 (m : Nat) (f : Nat → Nat → AV) (q : Nat) (h : Nat → Nat → AV) (ii : Nat) (x : GX BO) : roundB Ebp 3000 bpL (h0F bpF (bpU m f q h)) [(8, Src.nm 8), (9, Src.nm 1001)] (locSt bpF (bpT m f ii x) false (bpMb (x.O x.n)) x.n []) [Hint.b true, Hint.b false, Hint.b false, Hint.b true] (locSt bpF (bpT m f (ii + 1) (gSto x (avInt (f (0 + ii) 2)) (avInt (f (0 + ii) 3)) (avInt (f (0 + ii) 4)) (avInt (f (0 + ii) 5)))) false (bpMb (x.O x.n)) x.n []) =
 some (Ex.norm, [(0 : Nat) = 0,
 m = m,
 (none : Option Nat) = none,
 (0 : Nat) = 0,
 (0 : Nat) = 0,
 (0 : Nat) = 0,
 x.n = (gSto x (avInt (f (0 + ii) 2)) (avInt (f (0 + ii) 3)) (avInt (f (0 + ii) 4)) (avInt (f (0 + ii) 5))).n,
 (none : Option Nat) = none,
 wI (Int.ofNat ii + 1) = Int.ofNat (ii + 1),
 false = false,
 (bpT m f (ii + 1) (gSto x (avInt (f (0 + ii) 2)) (avInt (f (0 + ii) 3)) (avInt (f (0 + ii) 4)) (avInt (f (0 + ii) 5)))).n ≤ (bpT m f ii x).n,
 ∀ (i : Nat), i < (bpT m f (ii + 1) (gSto x (avInt (f (0 + ii) 2)) (avInt (f (0 + ii) 3)) (avInt (f (0 + ii) 4)) (avInt (f (0 + ii) 5)))).n → rowV (CM.mk 8 fam0 [(8, Src.nm 8), (9, Src.nm 1001)]) bpF.sh 0 (lrow fam0 2 (bpT m f ii x).M x.n i) (lrow fam0 2 (bpT m f (ii + 1) (gSto x (avInt (f (0 + ii) 2)) (avInt (f (0 + ii) 3)) (avInt (f (0 + ii) 4)) (avInt (f (0 + ii) 5)))).M x.n i),
 (0 : Nat) = 0,
 (0 : Nat) = 0,
 (0 : Nat) = 0,
 (0 : Nat) = 0,
 true = true,
 (1 : Nat) ≤ (1 : Nat),
 tabF tab = tabF tab ∧ plainSh (List.map kindOfV tab) = true ∨ ∀ (i : Nat), i < 1 → rowOb (List.map kindOfV tab) 0 (tabF tab i) (tabF tab i),
 true = true,
 m ≤ m,
 f = f ∧ plainSh asSh = true ∨ ∀ (i : Nat), i < m → rowOb asSh 0 (f i) (f i),
 (MS.mk (memPut x.S.M (avInt (f (0 + ii) 2)) (avInt (f (0 + ii) 3)) (avInt (f (0 + ii) 4)) (avInt (f (0 + ii) 5))) (wI (x.S.st + 1)) (LS.mk 2 (avInt (f (0 + ii) 2)) (avInt (f (0 + ii) 3)) (avInt (f (0 + ii) 4)) (mget x.S.M (key (avInt (f (0 + ii) 2)) (avInt (f (0 + ii) 3)) (avInt (f (0 + ii) 4)))) (memIs x.S.M (avInt (f (0 + ii) 2)) (avInt (f (0 + ii) 3)) (avInt (f (0 + ii) 4)) (avInt (f (0 + ii) 5))) false)).st = (gSto x (avInt (f (0 + ii) 2)) (avInt (f (0 + ii) 3)) (avInt (f (0 + ii) 4)) (avInt (f (0 + ii) 5))).S.st,
 (2 : Int) = 2,
 (MS.mk (memPut x.S.M (avInt (f (0 + ii) 2)) (avInt (f (0 + ii) 3)) (avInt (f (0 + ii) 4)) (avInt (f (0 + ii) 5))) (wI (x.S.st + 1)) (LS.mk 2 (avInt (f (0 + ii) 2)) (avInt (f (0 + ii) 3)) (avInt (f (0 + ii) 4)) (mget x.S.M (key (avInt (f (0 + ii) 2)) (avInt (f (0 + ii) 3)) (avInt (f (0 + ii) 4)))) (memIs x.S.M (avInt (f (0 + ii) 2)) (avInt (f (0 + ii) 3)) (avInt (f (0 + ii) 4)) (avInt (f (0 + ii) 5))) false)).L.k = (gSto x (avInt (f (0 + ii) 2)) (avInt (f (0 + ii) 3)) (avInt (f (0 + ii) 4)) (avInt (f (0 + ii) 5))).S.L.k,
 (MS.mk (memPut x.S.M (avInt (f (0 + ii) 2)) (avInt (f (0 + ii) 3)) (avInt (f (0 + ii) 4)) (avInt (f (0 + ii) 5))) (wI (x.S.st + 1)) (LS.mk 2 (avInt (f (0 + ii) 2)) (avInt (f (0 + ii) 3)) (avInt (f (0 + ii) 4)) (mget x.S.M (key (avInt (f (0 + ii) 2)) (avInt (f (0 + ii) 3)) (avInt (f (0 + ii) 4)))) (memIs x.S.M (avInt (f (0 + ii) 2)) (avInt (f (0 + ii) 3)) (avInt (f (0 + ii) 4)) (avInt (f (0 + ii) 5))) false)).L.a = (gSto x (avInt (f (0 + ii) 2)) (avInt (f (0 + ii) 3)) (avInt (f (0 + ii) 4)) (avInt (f (0 + ii) 5))).S.L.a,
 (MS.mk (memPut x.S.M (avInt (f (0 + ii) 2)) (avInt (f (0 + ii) 3)) (avInt (f (0 + ii) 4)) (avInt (f (0 + ii) 5))) (wI (x.S.st + 1)) (LS.mk 2 (avInt (f (0 + ii) 2)) (avInt (f (0 + ii) 3)) (avInt (f (0 + ii) 4)) (mget x.S.M (key (avInt (f (0 + ii) 2)) (avInt (f (0 + ii) 3)) (avInt (f (0 + ii) 4)))) (memIs x.S.M (avInt (f (0 + ii) 2)) (avInt (f (0 + ii) 3)) (avInt (f (0 + ii) 4)) (avInt (f (0 + ii) 5))) false)).L.f = (gSto x (avInt (f (0 + ii) 2)) (avInt (f (0 + ii) 3)) (avInt (f (0 + ii) 4)) (avInt (f (0 + ii) 5))).S.L.f,
 (MS.mk (memPut x.S.M (avInt (f (0 + ii) 2)) (avInt (f (0 + ii) 3)) (avInt (f (0 + ii) 4)) (avInt (f (0 + ii) 5))) (wI (x.S.st + 1)) (LS.mk 2 (avInt (f (0 + ii) 2)) (avInt (f (0 + ii) 3)) (avInt (f (0 + ii) 4)) (mget x.S.M (key (avInt (f (0 + ii) 2)) (avInt (f (0 + ii) 3)) (avInt (f (0 + ii) 4)))) (memIs x.S.M (avInt (f (0 + ii) 2)) (avInt (f (0 + ii) 3)) (avInt (f (0 + ii) 4)) (avInt (f (0 + ii) 5))) false)).L.w = (gSto x (avInt (f (0 + ii) 2)) (avInt (f (0 + ii) 3)) (avInt (f (0 + ii) 4)) (avInt (f (0 + ii) 5))).S.L.w,
 (MS.mk (memPut x.S.M (avInt (f (0 + ii) 2)) (avInt (f (0 + ii) 3)) (avInt (f (0 + ii) 4)) (avInt (f (0 + ii) 5))) (wI (x.S.st + 1)) (LS.mk 2 (avInt (f (0 + ii) 2)) (avInt (f (0 + ii) 3)) (avInt (f (0 + ii) 4)) (mget x.S.M (key (avInt (f (0 + ii) 2)) (avInt (f (0 + ii) 3)) (avInt (f (0 + ii) 4)))) (memIs x.S.M (avInt (f (0 + ii) 2)) (avInt (f (0 + ii) 3)) (avInt (f (0 + ii) 4)) (avInt (f (0 + ii) 5))) false)).L.i = (gSto x (avInt (f (0 + ii) 2)) (avInt (f (0 + ii) 3)) (avInt (f (0 + ii) 4)) (avInt (f (0 + ii) 5))).S.L.i,
 (MS.mk (memPut x.S.M (avInt (f (0 + ii) 2)) (avInt (f (0 + ii) 3)) (avInt (f (0 + ii) 4)) (avInt (f (0 + ii) 5))) (wI (x.S.st + 1)) (LS.mk 2 (avInt (f (0 + ii) 2)) (avInt (f (0 + ii) 3)) (avInt (f (0 + ii) 4)) (mget x.S.M (key (avInt (f (0 + ii) 2)) (avInt (f (0 + ii) 3)) (avInt (f (0 + ii) 4)))) (memIs x.S.M (avInt (f (0 + ii) 2)) (avInt (f (0 + ii) 3)) (avInt (f (0 + ii) 4)) (avInt (f (0 + ii) 5))) false)).L.d = (gSto x (avInt (f (0 + ii) 2)) (avInt (f (0 + ii) 3)) (avInt (f (0 + ii) 4)) (avInt (f (0 + ii) 5))).S.L.d,
 ∀ (k : List Int), (MS.mk (memPut x.S.M (avInt (f (0 + ii) 2)) (avInt (f (0 + ii) 3)) (avInt (f (0 + ii) 4)) (avInt (f (0 + ii) 5))) (wI (x.S.st + 1)) (LS.mk 2 (avInt (f (0 + ii) 2)) (avInt (f (0 + ii) 3)) (avInt (f (0 + ii) 4)) (mget x.S.M (key (avInt (f (0 + ii) 2)) (avInt (f (0 + ii) 3)) (avInt (f (0 + ii) 4)))) (memIs x.S.M (avInt (f (0 + ii) 2)) (avInt (f (0 + ii) 3)) (avInt (f (0 + ii) 4)) (avInt (f (0 + ii) 5))) false)).M k = (gSto x (avInt (f (0 + ii) 2)) (avInt (f (0 + ii) 3)) (avInt (f (0 + ii) 4)) (avInt (f (0 + ii) 5))).S.M k,
 (0 : Nat) = 0,
 (dPut (xD x) (avInt (f (0 + ii) 2)) (avInt (f (0 + ii) 3)) (avInt (f (0 + ii) 4)) (avInt (f (0 + ii) 5))).n = (gSto x (avInt (f (0 + ii) 2)) (avInt (f (0 + ii) 3)) (avInt (f (0 + ii) 4)) (avInt (f (0 + ii) 5))).R.D.n,
 (none : Option Nat) = none,
 wI (x.R.st + 1) = (gSto x (avInt (f (0 + ii) 2)) (avInt (f (0 + ii) 3)) (avInt (f (0 + ii) 4)) (avInt (f (0 + ii) 5))).R.st,
 (2 : Int) = 2,
 (LS.mk 2 (avInt (f (0 + ii) 2)) (avInt (f (0 + ii) 3)) (avInt (f (0 + ii) 4)) (dWord (xD x) (avInt (f (0 + ii) 2)) (avInt (f (0 + ii) 3)) (avInt (f (0 + ii) 4))) (dWord (dPut (xD x) (avInt (f (0 + ii) 2)) (avInt (f (0 + ii) 3)) (avInt (f (0 + ii) 4)) (avInt (f (0 + ii) 5))) (avInt (f (0 + ii) 2)) (avInt (f (0 + ii) 3)) (avInt (f (0 + ii) 4))) false).k = (gSto x (avInt (f (0 + ii) 2)) (avInt (f (0 + ii) 3)) (avInt (f (0 + ii) 4)) (avInt (f (0 + ii) 5))).R.L.k,
 (LS.mk 2 (avInt (f (0 + ii) 2)) (avInt (f (0 + ii) 3)) (avInt (f (0 + ii) 4)) (dWord (xD x) (avInt (f (0 + ii) 2)) (avInt (f (0 + ii) 3)) (avInt (f (0 + ii) 4))) (dWord (dPut (xD x) (avInt (f (0 + ii) 2)) (avInt (f (0 + ii) 3)) (avInt (f (0 + ii) 4)) (avInt (f (0 + ii) 5))) (avInt (f (0 + ii) 2)) (avInt (f (0 + ii) 3)) (avInt (f (0 + ii) 4))) false).a = (gSto x (avInt (f (0 + ii) 2)) (avInt (f (0 + ii) 3)) (avInt (f (0 + ii) 4)) (avInt (f (0 + ii) 5))).R.L.a,
 (LS.mk 2 (avInt (f (0 + ii) 2)) (avInt (f (0 + ii) 3)) (avInt (f (0 + ii) 4)) (dWord (xD x) (avInt (f (0 + ii) 2)) (avInt (f (0 + ii) 3)) (avInt (f (0 + ii) 4))) (dWord (dPut (xD x) (avInt (f (0 + ii) 2)) (avInt (f (0 + ii) 3)) (avInt (f (0 + ii) 4)) (avInt (f (0 + ii) 5))) (avInt (f (0 + ii) 2)) (avInt (f (0 + ii) 3)) (avInt (f (0 + ii) 4))) false).f = (gSto x (avInt (f (0 + ii) 2)) (avInt (f (0 + ii) 3)) (avInt (f (0 + ii) 4)) (avInt (f (0 + ii) 5))).R.L.f,
 (LS.mk 2 (avInt (f (0 + ii) 2)) (avInt (f (0 + ii) 3)) (avInt (f (0 + ii) 4)) (dWord (xD x) (avInt (f (0 + ii) 2)) (avInt (f (0 + ii) 3)) (avInt (f (0 + ii) 4))) (dWord (dPut (xD x) (avInt (f (0 + ii) 2)) (avInt (f (0 + ii) 3)) (avInt (f (0 + ii) 4)) (avInt (f (0 + ii) 5))) (avInt (f (0 + ii) 2)) (avInt (f (0 + ii) 3)) (avInt (f (0 + ii) 4))) false).w = (gSto x (avInt (f (0 + ii) 2)) (avInt (f (0 + ii) 3)) (avInt (f (0 + ii) 4)) (avInt (f (0 + ii) 5))).R.L.w,
 (LS.mk 2 (avInt (f (0 + ii) 2)) (avInt (f (0 + ii) 3)) (avInt (f (0 + ii) 4)) (dWord (xD x) (avInt (f (0 + ii) 2)) (avInt (f (0 + ii) 3)) (avInt (f (0 + ii) 4))) (dWord (dPut (xD x) (avInt (f (0 + ii) 2)) (avInt (f (0 + ii) 3)) (avInt (f (0 + ii) 4)) (avInt (f (0 + ii) 5))) (avInt (f (0 + ii) 2)) (avInt (f (0 + ii) 3)) (avInt (f (0 + ii) 4))) false).i = (gSto x (avInt (f (0 + ii) 2)) (avInt (f (0 + ii) 3)) (avInt (f (0 + ii) 4)) (avInt (f (0 + ii) 5))).R.L.i,
 (LS.mk 2 (avInt (f (0 + ii) 2)) (avInt (f (0 + ii) 3)) (avInt (f (0 + ii) 4)) (dWord (xD x) (avInt (f (0 + ii) 2)) (avInt (f (0 + ii) 3)) (avInt (f (0 + ii) 4))) (dWord (dPut (xD x) (avInt (f (0 + ii) 2)) (avInt (f (0 + ii) 3)) (avInt (f (0 + ii) 4)) (avInt (f (0 + ii) 5))) (avInt (f (0 + ii) 2)) (avInt (f (0 + ii) 3)) (avInt (f (0 + ii) 4))) false).d = (gSto x (avInt (f (0 + ii) 2)) (avInt (f (0 + ii) 3)) (avInt (f (0 + ii) 4)) (avInt (f (0 + ii) 5))).R.L.d,
 false = false,
 (gSto x (avInt (f (0 + ii) 2)) (avInt (f (0 + ii) 3)) (avInt (f (0 + ii) 4)) (avInt (f (0 + ii) 5))).R.D.n ≤ (dPut (xD x) (avInt (f (0 + ii) 2)) (avInt (f (0 + ii) 3)) (avInt (f (0 + ii) 4)) (avInt (f (0 + ii) 5))).n,
 wdF (gSto x (avInt (f (0 + ii) 2)) (avInt (f (0 + ii) 3)) (avInt (f (0 + ii) 4)) (avInt (f (0 + ii) 5))).R.D.W = wdF (dPut (xD x) (avInt (f (0 + ii) 2)) (avInt (f (0 + ii) 3)) (avInt (f (0 + ii) 4)) (avInt (f (0 + ii) 5))).W ∧ plainSh wSh = true ∨ ∀ (i : Nat), i < (gSto x (avInt (f (0 + ii) 2)) (avInt (f (0 + ii) 3)) (avInt (f (0 + ii) 4)) (avInt (f (0 + ii) 5))).R.D.n → rowOb wSh 0 (wdF (dPut (xD x) (avInt (f (0 + ii) 2)) (avInt (f (0 + ii) 3)) (avInt (f (0 + ii) 4)) (avInt (f (0 + ii) 5))).W i) (wdF (gSto x (avInt (f (0 + ii) 2)) (avInt (f (0 + ii) 3)) (avInt (f (0 + ii) 4)) (avInt (f (0 + ii) 5))).R.D.W i),
 Both (MS.mk (memPut x.S.M (avInt (f (0 + ii) 2)) (avInt (f (0 + ii) 3)) (avInt (f (0 + ii) 4)) (avInt (f (0 + ii) 5))) (wI (x.S.st + 1)) (LS.mk 2 (avInt (f (0 + ii) 2)) (avInt (f (0 + ii) 3)) (avInt (f (0 + ii) 4)) (mget x.S.M (key (avInt (f (0 + ii) 2)) (avInt (f (0 + ii) 3)) (avInt (f (0 + ii) 4)))) (memIs x.S.M (avInt (f (0 + ii) 2)) (avInt (f (0 + ii) 3)) (avInt (f (0 + ii) 4)) (avInt (f (0 + ii) 5))) false)) (mkR (dPut (xD x) (avInt (f (0 + ii) 2)) (avInt (f (0 + ii) 3)) (avInt (f (0 + ii) 4)) (avInt (f (0 + ii) 5))).n (wdF (dPut (xD x) (avInt (f (0 + ii) 2)) (avInt (f (0 + ii) 3)) (avInt (f (0 + ii) 4)) (avInt (f (0 + ii) 5))).W) (wI (x.R.st + 1)) (LS.mk 2 (avInt (f (0 + ii) 2)) (avInt (f (0 + ii) 3)) (avInt (f (0 + ii) 4)) (dWord (xD x) (avInt (f (0 + ii) 2)) (avInt (f (0 + ii) 3)) (avInt (f (0 + ii) 4))) (dWord (dPut (xD x) (avInt (f (0 + ii) 2)) (avInt (f (0 + ii) 3)) (avInt (f (0 + ii) 4)) (avInt (f (0 + ii) 5))) (avInt (f (0 + ii) 2)) (avInt (f (0 + ii) 3)) (avInt (f (0 + ii) 4))) false)),
 x.R.D.n ≤ x.R.D.n,
 x.R.D.n ≤ 100000,
 0 ≤ avInt (f (0 + ii) 2),
 ((avInt (f (0 + ii) 0)).tmod 6 == 2) = true,
 ((avInt (f (0 + ii) 0)).tmod 6 == 1) = false,
 ((avInt (f (0 + ii) 0)).tmod 6 == 0) = false,
 (0 + ii).blt m = true,
 (ii.blt m && decide (0 ≤ Int.ofNat ii)) = true,
 decide (Int.ofNat ii < Int.ofNat m) = true]) := by kernel_rfl
theorem bs1_1 (m : Nat) (f : Nat → Nat → AV) (q : Nat) (h : Nat → Nat → AV) (ii : Nat) (x : GX BO) : roundB Ebp 3000 bpL (h0F bpF (bpU m f q h)) [(8, Src.nm 8), (9, Src.nm 9)] (locSt bpF (bpT m f ii x) false (bpMb (x.O x.n)) x.n []) [Hint.b true, Hint.b false, Hint.b false, Hint.b false, Hint.node [(3, [Hint.b false])]] (locSt bpF (bpT m f (ii + 1) x) false (bpMb (x.O x.n)) x.n []) =
 some (Ex.norm, [(0 : Nat) = 0,
 m = m,
 (none : Option Nat) = none,
 (0 : Nat) = 0,
 (0 : Nat) = 0,
 (0 : Nat) = 0,
 x.n = x.n,
 (none : Option Nat) = none,
 wI (Int.ofNat ii + 1) = Int.ofNat (ii + 1),
 false = false,
 (bpT m f (ii + 1) x).n ≤ (bpT m f ii x).n,
 ∀ (i : Nat), i < (bpT m f (ii + 1) x).n → rowV (CM.mk 8 fam0 [(8, Src.nm 8), (9, Src.nm 9)]) bpF.sh 0 (lrow fam0 2 (bpT m f ii x).M x.n i) (lrow fam0 2 (bpT m f (ii + 1) x).M x.n i),
 (0 : Nat) = 0,
 (0 : Nat) = 0,
 (0 : Nat) = 0,
 (0 : Nat) = 0,
 true = true,
 (1 : Nat) ≤ (1 : Nat),
 tabF tab = tabF tab ∧ plainSh (List.map kindOfV tab) = true ∨ ∀ (i : Nat), i < 1 → rowOb (List.map kindOfV tab) 0 (tabF tab i) (tabF tab i),
 true = true,
 m ≤ m,
 f = f ∧ plainSh asSh = true ∨ ∀ (i : Nat), i < m → rowOb asSh 0 (f i) (f i),
 x.S.st = x.S.st,
 x.S.L.c = x.S.L.c,
 x.S.L.k = x.S.L.k,
 x.S.L.a = x.S.L.a,
 x.S.L.f = x.S.L.f,
 x.S.L.w = x.S.L.w,
 x.S.L.i = x.S.L.i,
 x.S.L.d = x.S.L.d,
 ∀ (k : List Int), x.S.M k = x.S.M k,
 (0 : Nat) = 0,
 x.R.D.n = x.R.D.n,
 (none : Option Nat) = none,
 x.R.st = x.R.st,
 x.R.L.c = x.R.L.c,
 x.R.L.k = x.R.L.k,
 x.R.L.a = x.R.L.a,
 x.R.L.f = x.R.L.f,
 x.R.L.w = x.R.L.w,
 x.R.L.i = x.R.L.i,
 x.R.L.d = x.R.L.d,
 false = false,
 x.R.D.n ≤ x.R.D.n,
 wdF x.R.D.W = wdF x.R.D.W ∧ plainSh wSh = true ∨ ∀ (i : Nat), i < x.R.D.n → rowOb wSh 0 (wdF x.R.D.W i) (wdF x.R.D.W i),
 Both x.S x.R,
 decide (Int.ofNat x.n > 0) = false,
 ((avInt (f (0 + ii) 0)).tmod 6 == 2) = false,
 ((avInt (f (0 + ii) 0)).tmod 6 == 1) = false,
 ((avInt (f (0 + ii) 0)).tmod 6 == 0) = false,
 (0 + ii).blt m = true,
 (ii.blt m && decide (0 ≤ Int.ofNat ii)) = true,
 decide (Int.ofNat ii < Int.ofNat m) = true]) := by kernel_rfl
theorem b0_1 (m : Nat) (f : Nat → Nat → AV) (q : Nat) (h : Nat → Nat → AV) (ii : Nat) (x : GX BO) (j : Nat) (b e : Int) : roundB Ebp 3000 bpL (h0F bpF (bpU m f q h)) [(8, Src.nm 8), (9, Src.nm 9), (900, Src.nm 900), (901, Src.nm 901)] (locSt bpF (bpT m f ii x) true (bpMb (BO.mk 0 b e)) j []) [Hint.b true, Hint.b false, Hint.b false, Hint.b false, Hint.node [(3, [Hint.b true]), (12, [Hint.a (AV.ptr 900 0 0), Hint.a AV.nilp, Hint.a (AV.ptr 901 0 0)]), (14, [])], Hint.b false] (locSt bpF (bpT m f (ii + 1) (b0Y x j b e)) true (bpMb (BO.mk 0 b e)) j []) =
 some (Ex.norm, [(0 : Nat) = 0,
 m = m,
 (none : Option Nat) = none,
 (0 : Nat) = 0,
 (0 : Nat) = 0,
 (0 : Nat) = 0,
 x.n = (b0Y x j b e).n,
 (none : Option Nat) = none,
 wI (Int.ofNat ii + 1) = Int.ofNat (ii + 1),
 (BO.mk 0 b e).b = (BO.mk 0 b e).b,
 (BO.mk 0 b e).e = (BO.mk 0 b e).e,
 (BO.mk 0 b e).e = (BO.mk 0 b e).e,
 (BO.mk 0 b e).b = (BO.mk 0 b e).b,
 false = false,
 (bpT m f (ii + 1) (b0Y x j b e)).n ≤ (bpT m f ii x).n,
 ∀ (i : Nat), i < (bpT m f (ii + 1) (b0Y x j b e)).n → rowV (CM.mk 8 fam0 [(8, Src.nm 8), (9, Src.nm 9), (900, Src.nm 900), (901, Src.nm 901)]) bpF.sh 0 (lrow fam0 2 (bpT m f ii x).M j i) (lrow fam0 2 (bpT m f (ii + 1) (b0Y x j b e)).M j i),
 (0 : Nat) = 0,
 (0 : Nat) = 0,
 (0 : Nat) = 0,
 (0 : Nat) = 0,
 true = true,
 (1 : Nat) ≤ (1 : Nat),
 tabF tab = tabF tab ∧ plainSh (List.map kindOfV tab) = true ∨ ∀ (i : Nat), i < 1 → rowOb (List.map kindOfV tab) 0 (tabF tab i) (tabF tab i),
 true = true,
 m ≤ m,
 f = f ∧ plainSh asSh = true ∨ ∀ (i : Nat), i < m → rowOb asSh 0 (f i) (f i),
 x.S.st = (b0Y x j b e).S.st,
 x.S.L.c = (b0Y x j b e).S.L.c,
 x.S.L.k = (b0Y x j b e).S.L.k,
 x.S.L.a = (b0Y x j b e).S.L.a,
 x.S.L.f = (b0Y x j b e).S.L.f,
 x.S.L.w = (b0Y x j b e).S.L.w,
 x.S.L.i = (b0Y x j b e).S.L.i,
 x.S.L.d = (b0Y x j b e).S.L.d,
 ∀ (k : List Int), x.S.M k = (b0Y x j b e).S.M k,
 (0 : Nat) = 0,
 x.R.D.n = (b0Y x j b e).R.D.n,
 (none : Option Nat) = none,
 x.R.st = (b0Y x j b e).R.st,
 x.R.L.c = (b0Y x j b e).R.L.c,
 x.R.L.k = (b0Y x j b e).R.L.k,
 x.R.L.a = (b0Y x j b e).R.L.a,
 x.R.L.f = (b0Y x j b e).R.L.f,
 x.R.L.w = (b0Y x j b e).R.L.w,
 x.R.L.i = (b0Y x j b e).R.L.i,
 x.R.L.d = (b0Y x j b e).R.L.d,
 false = false,
 (b0Y x j b e).R.D.n ≤ x.R.D.n,
 wdF (b0Y x j b e).R.D.W = wdF x.R.D.W ∧ plainSh wSh = true ∨ ∀ (i : Nat), i < (b0Y x j b e).R.D.n → rowOb wSh 0 (wdF x.R.D.W i) (wdF (b0Y x j b e).R.D.W i),
 Both x.S x.R,
 (!(BO.mk 0 b e).e == (BO.mk 0 b e).e) = false,
 (0 : Int) ≤ (0 : Int),
 (0 : Int) < (4294967296 : Int),
 (0 : Int) ≤ (0 : Int),
 (0 : Int) < (4294967296 : Int),
 lrow fam0 2 (bpT m f ii x).M j (0 + ((avInt (f (0 + ii) 1)).tmod (wU (Int.ofNat x.n))).toNat) 2 = AV.ptr 901 0 0,
 lrow fam0 2 (bpT m f ii x).M j (0 + ((avInt (f (0 + ii) 1)).tmod (wU (Int.ofNat x.n))).toNat) 1 = AV.nilp,
 lrow fam0 2 (bpT m f ii x).M j (0 + ((avInt (f (0 + ii) 1)).tmod (wU (Int.ofNat x.n))).toNat) 0 = AV.ptr 900 0 0,
 (0 + ((avInt (f (0 + ii) 1)).tmod (wU (Int.ofNat x.n))).toNat).blt (bpT m f ii x).n = true,
 (((avInt (f (0 + ii) 1)).tmod (wU (Int.ofNat x.n))).toNat.blt x.n && decide (0 ≤ (avInt (f (0 + ii) 1)).tmod (wU (Int.ofNat x.n)))) = true,
 decide (wU (Int.ofNat x.n) ≠ 0) = true,
 decide (Int.ofNat x.n > 0) = true,
 ((avInt (f (0 + ii) 0)).tmod 6 == 2) = false,
 ((avInt (f (0 + ii) 0)).tmod 6 == 1) = false,
 ((avInt (f (0 + ii) 0)).tmod 6 == 0) = false,
 (0 + ii).blt m = true,
 (ii.blt m && decide (0 ≤ Int.ofNat ii)) = true,
 decide (Int.ofNat ii < Int.ofNat m) = true]) := by kernel_rfl
theorem b1a_1 (m : Nat) (f : Nat → Nat → AV) (q : Nat) (h : Nat → Nat → AV) (ii : Nat) (x : GX BO) (j : Nat) (b e : Int) : roundB Ebp 3000 bpL (h0F bpF (bpU m f q h)) [(8, Src.nm 8), (9, Src.nm 9), (900, Src.nm 900), (901, Src.nm 901)] (locSt bpF (bpT m f ii x) true (bpMb (BO.mk 1 b e)) j []) [Hint.b true, Hint.b false, Hint.b false, Hint.b false, Hint.node [(3, [Hint.b true]), (12, [Hint.a (AV.ptr 900 0 0), Hint.a AV.nilp, Hint.a (AV.ptr 901 0 0)]), (14, [Hint.b true, Hint.node [(4, [Hint.b true])]])], Hint.b false] (locSt bpF (bpT m f (ii + 1) (b1aY x j b e)) true (bpMb (BO.mk 0 (mget x.S.M (key 5 0 0)) 5)) j []) =
 some (Ex.norm, [(0 : Nat) = 0,
 m = m,
 (none : Option Nat) = none,
 (0 : Nat) = 0,
 (0 : Nat) = 0,
 (0 : Nat) = 0,
 x.n = (b1aY x j b e).n,
 (none : Option Nat) = none,
 wI (Int.ofNat ii + 1) = Int.ofNat (ii + 1),
 mget x.S.M (key 5 0 0) = (BO.mk 0 (mget x.S.M (key 5 0 0)) 5).b,
 (5 : Int) = 5,
 (5 : Int) = 5,
 dWord (xD x) 5 0 0 = (BO.mk 0 (mget x.S.M (key 5 0 0)) 5).b,
 false = false,
 (bpT m f (ii + 1) (b1aY x j b e)).n ≤ (bpT m f ii x).n,
 ∀ (i : Nat), i < (bpT m f (ii + 1) (b1aY x j b e)).n → rowV (CM.mk 8 fam0 [(8, Src.nm 8), (9, Src.nm 9), (900, Src.nm 900), (901, Src.nm 901)]) bpF.sh 0 (lrow fam0 2 (bpT m f ii x).M j i) (lrow fam0 2 (bpT m f (ii + 1) (b1aY x j b e)).M j i),
 (0 : Nat) = 0,
 (0 : Nat) = 0,
 (0 : Nat) = 0,
 (0 : Nat) = 0,
 true = true,
 (1 : Nat) ≤ (1 : Nat),
 tabF tab = tabF tab ∧ plainSh (List.map kindOfV tab) = true ∨ ∀ (i : Nat), i < 1 → rowOb (List.map kindOfV tab) 0 (tabF tab i) (tabF tab i),
 true = true,
 m ≤ m,
 f = f ∧ plainSh asSh = true ∨ ∀ (i : Nat), i < m → rowOb asSh 0 (f i) (f i),
 (MS.mk x.S.M (wI (x.S.st + 1)) (LS.mk 1 5 0 0 (mget x.S.M (key 5 0 0)) (mget x.S.M (key 5 0 0)) false)).st = (b1aY x j b e).S.st,
 (1 : Int) = 1,
 (5 : Int) = 5,
 (0 : Int) = 0,
 (0 : Int) = 0,
 (MS.mk x.S.M (wI (x.S.st + 1)) (LS.mk 1 5 0 0 (mget x.S.M (key 5 0 0)) (mget x.S.M (key 5 0 0)) false)).L.w = (b1aY x j b e).S.L.w,
 (MS.mk x.S.M (wI (x.S.st + 1)) (LS.mk 1 5 0 0 (mget x.S.M (key 5 0 0)) (mget x.S.M (key 5 0 0)) false)).L.i = (b1aY x j b e).S.L.i,
 (MS.mk x.S.M (wI (x.S.st + 1)) (LS.mk 1 5 0 0 (mget x.S.M (key 5 0 0)) (mget x.S.M (key 5 0 0)) false)).L.d = (b1aY x j b e).S.L.d,
 ∀ (k : List Int), (MS.mk x.S.M (wI (x.S.st + 1)) (LS.mk 1 5 0 0 (mget x.S.M (key 5 0 0)) (mget x.S.M (key 5 0 0)) false)).M k = (b1aY x j b e).S.M k,
 (0 : Nat) = 0,
 x.R.D.n = (b1aY x j b e).R.D.n,
 (none : Option Nat) = none,
 wI (x.R.st + 1) = (b1aY x j b e).R.st,
 (1 : Int) = 1,
 (5 : Int) = 5,
 (0 : Int) = 0,
 (0 : Int) = 0,
 (LS.mk 1 5 0 0 (dWord (xD x) 5 0 0) (dWord (xD x) 5 0 0) false).w = (b1aY x j b e).R.L.w,
 (LS.mk 1 5 0 0 (dWord (xD x) 5 0 0) (dWord (xD x) 5 0 0) false).i = (b1aY x j b e).R.L.i,
 (LS.mk 1 5 0 0 (dWord (xD x) 5 0 0) (dWord (xD x) 5 0 0) false).d = (b1aY x j b e).R.L.d,
 false = false,
 (b1aY x j b e).R.D.n ≤ x.R.D.n,
 wdF (b1aY x j b e).R.D.W = wdF x.R.D.W ∧ plainSh wSh = true ∨ ∀ (i : Nat), i < (b1aY x j b e).R.D.n → rowOb wSh 0 (wdF x.R.D.W i) (wdF (b1aY x j b e).R.D.W i),
 Both (MS.mk x.S.M (wI (x.S.st + 1)) (LS.mk 1 5 0 0 (mget x.S.M (key 5 0 0)) (mget x.S.M (key 5 0 0)) false)) (mkR x.R.D.n (wdF x.R.D.W) (wI (x.R.st + 1)) (LS.mk 1 5 0 0 (dWord (xD x) 5 0 0) (dWord (xD x) 5 0 0) false)),
 decide (mget x.S.M (key 5 0 0) ≥ 4) = true,
 decide (dWord (xD x) 5 0 0 ≥ 4) = true,
 x.R.D.n ≤ x.R.D.n,
 x.R.D.n ≤ 1000000,
 (0 : Int) ≤ (0 : Int),
 (0 : Int) < (4294967296 : Int),
 (0 : Int) ≤ (0 : Int),
 (0 : Int) < (4294967296 : Int),
 lrow fam0 2 (bpT m f ii x).M j (0 + ((avInt (f (0 + ii) 1)).tmod (wU (Int.ofNat x.n))).toNat) 2 = AV.ptr 901 0 0,
 lrow fam0 2 (bpT m f ii x).M j (0 + ((avInt (f (0 + ii) 1)).tmod (wU (Int.ofNat x.n))).toNat) 1 = AV.nilp,
 lrow fam0 2 (bpT m f ii x).M j (0 + ((avInt (f (0 + ii) 1)).tmod (wU (Int.ofNat x.n))).toNat) 0 = AV.ptr 900 0 0,
 (0 + ((avInt (f (0 + ii) 1)).tmod (wU (Int.ofNat x.n))).toNat).blt (bpT m f ii x).n = true,
 (((avInt (f (0 + ii) 1)).tmod (wU (Int.ofNat x.n))).toNat.blt x.n && decide (0 ≤ (avInt (f (0 + ii) 1)).tmod (wU (Int.ofNat x.n)))) = true,
 decide (wU (Int.ofNat x.n) ≠ 0) = true,
 decide (Int.ofNat x.n > 0) = true,
 ((avInt (f (0 + ii) 0)).tmod 6 == 2) = false,
 ((avInt (f (0 + ii) 0)).tmod 6 == 1) = false,
 ((avInt (f (0 + ii) 0)).tmod 6 == 0) = false,
 (0 + ii).blt m = true,
 (ii.blt m && decide (0 ≤ Int.ofNat ii)) = true,
 decide (Int.ofNat ii < Int.ofNat m) = true]) := by kernel_rfl
theorem b1b_1 (m : Nat) (f : Nat → Nat → AV) (q : Nat) (h : Nat → Nat → AV) (ii : Nat) (x : GX BO) (j : Nat) (b e : Int) : roundB Ebp 3000 bpL (h0F bpF (bpU m f q h)) [(8, Src.nm 8), (9, Src.nm 9), (900, Src.nm 900), (901, Src.nm 901)] (locSt bpF (bpT m f ii x) true (bpMb (BO.mk 1 b e)) j []) [Hint.b true, Hint.b false, Hint.b false, Hint.b false, Hint.node [(3, [Hint.b true]), (12, [Hint.a (AV.ptr 900 0 0), Hint.a AV.nilp, Hint.a (AV.ptr 901 0 0)]), (14, [Hint.b false, Hint.node [(4, [Hint.b false])]])], Hint.b false] (locSt bpF (bpT m f (ii + 1) (b1bY x j b e)) true (bpMb (BO.mk 2 (mget x.S.M (key 5 0 0)) e)) j []) =
 some (Ex.norm, [(0 : Nat) = 0,
 m = m,
 (none : Option Nat) = none,
 (0 : Nat) = 0,
 (0 : Nat) = 0,
 (0 : Nat) = 0,
 x.n = (b1bY x j b e).n,
 (none : Option Nat) = none,
 wI (Int.ofNat ii + 1) = Int.ofNat (ii + 1),
 mget x.S.M (key 5 0 0) = (BO.mk 2 (mget x.S.M (key 5 0 0)) e).b,
 (BO.mk 1 b e).e = (BO.mk 2 (mget x.S.M (key 5 0 0)) e).e,
 (BO.mk 1 b e).e = (BO.mk 2 (mget x.S.M (key 5 0 0)) e).e,
 dWord (xD x) 5 0 0 = (BO.mk 2 (mget x.S.M (key 5 0 0)) e).b,
 false = false,
 (bpT m f (ii + 1) (b1bY x j b e)).n ≤ (bpT m f ii x).n,
 ∀ (i : Nat), i < (bpT m f (ii + 1) (b1bY x j b e)).n → rowV (CM.mk 8 fam0 [(8, Src.nm 8), (9, Src.nm 9), (900, Src.nm 900), (901, Src.nm 901)]) bpF.sh 0 (lrow fam0 2 (bpT m f ii x).M j i) (lrow fam0 2 (bpT m f (ii + 1) (b1bY x j b e)).M j i),
 (0 : Nat) = 0,
 (0 : Nat) = 0,
 (0 : Nat) = 0,
 (0 : Nat) = 0,
 true = true,
 (1 : Nat) ≤ (1 : Nat),
 tabF tab = tabF tab ∧ plainSh (List.map kindOfV tab) = true ∨ ∀ (i : Nat), i < 1 → rowOb (List.map kindOfV tab) 0 (tabF tab i) (tabF tab i),
 true = true,
 m ≤ m,
 f = f ∧ plainSh asSh = true ∨ ∀ (i : Nat), i < m → rowOb asSh 0 (f i) (f i),
 (MS.mk x.S.M (wI (x.S.st + 1)) (LS.mk 1 5 0 0 (mget x.S.M (key 5 0 0)) (mget x.S.M (key 5 0 0)) false)).st = (b1bY x j b e).S.st,
 (1 : Int) = 1,
 (5 : Int) = 5,
 (0 : Int) = 0,
 (0 : Int) = 0,
 (MS.mk x.S.M (wI (x.S.st + 1)) (LS.mk 1 5 0 0 (mget x.S.M (key 5 0 0)) (mget x.S.M (key 5 0 0)) false)).L.w = (b1bY x j b e).S.L.w,
 (MS.mk x.S.M (wI (x.S.st + 1)) (LS.mk 1 5 0 0 (mget x.S.M (key 5 0 0)) (mget x.S.M (key 5 0 0)) false)).L.i = (b1bY x j b e).S.L.i,
 (MS.mk x.S.M (wI (x.S.st + 1)) (LS.mk 1 5 0 0 (mget x.S.M (key 5 0 0)) (mget x.S.M (key 5 0 0)) false)).L.d = (b1bY x j b e).S.L.d,
 ∀ (k : List Int), (MS.mk x.S.M (wI (x.S.st + 1)) (LS.mk 1 5 0 0 (mget x.S.M (key 5 0 0)) (mget x.S.M (key 5 0 0)) false)).M k = (b1bY x j b e).S.M k,
 (0 : Nat) = 0,
 x.R.D.n = (b1bY x j b e).R.D.n,
 (none : Option Nat) = none,
 wI (x.R.st + 1) = (b1bY x j b e).R.st,
 (1 : Int) = 1,
 (5 : Int) = 5,
 (0 : Int) = 0,
 (0 : Int) = 0,
 (LS.mk 1 5 0 0 (dWord (xD x) 5 0 0) (dWord (xD x) 5 0 0) false).w = (b1bY x j b e).R.L.w,
 (LS.mk 1 5 0 0 (dWord (xD x) 5 0 0) (dWord (xD x) 5 0 0) false).i = (b1bY x j b e).R.L.i,
 (LS.mk 1 5 0 0 (dWord (xD x) 5 0 0) (dWord (xD x) 5 0 0) false).d = (b1bY x j b e).R.L.d,
 false = false,
 (b1bY x j b e).R.D.n ≤ x.R.D.n,
 wdF (b1bY x j b e).R.D.W = wdF x.R.D.W ∧ plainSh wSh = true ∨ ∀ (i : Nat), i < (b1bY x j b e).R.D.n → rowOb wSh 0 (wdF x.R.D.W i) (wdF (b1bY x j b e).R.D.W i),
 Both (MS.mk x.S.M (wI (x.S.st + 1)) (LS.mk 1 5 0 0 (mget x.S.M (key 5 0 0)) (mget x.S.M (key 5 0 0)) false)) (mkR x.R.D.n (wdF x.R.D.W) (wI (x.R.st + 1)) (LS.mk 1 5 0 0 (dWord (xD x) 5 0 0) (dWord (xD x) 5 0 0) false)),
 (!(BO.mk 1 b e).e == (BO.mk 1 b e).e) = false,
 decide (mget x.S.M (key 5 0 0) ≥ 4) = false,
 decide (dWord (xD x) 5 0 0 ≥ 4) = false,
 x.R.D.n ≤ x.R.D.n,
 x.R.D.n ≤ 1000000,
 (0 : Int) ≤ (0 : Int),
 (0 : Int) < (4294967296 : Int),
 (0 : Int) ≤ (0 : Int),
 (0 : Int) < (4294967296 : Int),
 lrow fam0 2 (bpT m f ii x).M j (0 + ((avInt (f (0 + ii) 1)).tmod (wU (Int.ofNat x.n))).toNat) 2 = AV.ptr 901 0 0,
 lrow fam0 2 (bpT m f ii x).M j (0 + ((avInt (f (0 + ii) 1)).tmod (wU (Int.ofNat x.n))).toNat) 1 = AV.nilp,
 lrow fam0 2 (bpT m f ii x).M j (0 + ((avInt (f (0 + ii) 1)).tmod (wU (Int.ofNat x.n))).toNat) 0 = AV.ptr 900 0 0,
 (0 + ((avInt (f (0 + ii) 1)).tmod (wU (Int.ofNat x.n))).toNat).blt (bpT m f ii x).n = true,
 (((avInt (f (0 + ii) 1)).tmod (wU (Int.ofNat x.n))).toNat.blt x.n && decide (0 ≤ (avInt (f (0 + ii) 1)).tmod (wU (Int.ofNat x.n)))) = true,
 decide (wU (Int.ofNat x.n) ≠ 0) = true,
 decide (Int.ofNat x.n > 0) = true,
 ((avInt (f (0 + ii) 0)).tmod 6 == 2) = false,
 ((avInt (f (0 + ii) 0)).tmod 6 == 1) = false,
 ((avInt (f (0 + ii) 0)).tmod 6 == 0) = false,
 (0 + ii).blt m = true,
 (ii.blt m && decide (0 ≤ Int.ofNat ii)) = true,
 decide (Int.ofNat ii < Int.ofNat m) = true]) := by kernel_rfl
theorem b2a_1 (m : Nat) (f : Nat → Nat → AV) (q : Nat) (h : Nat → Nat → AV) (ii : Nat) (x : GX BO) (j : Nat) (b e : Int) : roundB Ebp 3000 bpL (h0F bpF (bpU m f q h)) [(8, Src.nm 8), (9, Src.nm 1432125560571588806088043091146838491509462512433625502740269698905336475471608626472341327076149917959354303353928698802958474702691095546400415417299), (900, Src.nm 900), (901, Src.nm 901)] (locSt bpF (bpT m f ii x) true (bpMb (BO.mk 2 b e)) j []) [Hint.b true, Hint.b false, Hint.b false, Hint.b false, Hint.node [(3, [Hint.b true]), (12, [Hint.a (AV.ptr 900 0 0), Hint.a AV.nilp, Hint.a (AV.ptr 901 0 0)]), (14, [Hint.node [], Hint.b true, Hint.node [(4, [Hint.node [], Hint.b true])]])], Hint.b false] (locSt bpF (bpT m f (ii + 1) (b2aY x j b e)) true (bpMb (BO.mk 3 b e)) j []) =
 some (Ex.norm, [(0 : Nat) = 0,
 m = m,
 (none : Option Nat) = none,
 (0 : Nat) = 0,
 (0 : Nat) = 0,
 (0 : Nat) = 0,
 x.n = (b2aY x j b e).n,
 (none : Option Nat) = none,
 wI (Int.ofNat ii + 1) = Int.ofNat (ii + 1),
 (BO.mk 2 b e).b = (BO.mk 3 b e).b,
 (BO.mk 2 b e).e = (BO.mk 3 b e).e,
 (BO.mk 2 b e).e = (BO.mk 3 b e).e,
 (BO.mk 2 b e).b = (BO.mk 3 b e).b,
 false = false,
 (bpT m f (ii + 1) (b2aY x j b e)).n ≤ (bpT m f ii x).n,
 ∀ (i : Nat), i < (bpT m f (ii + 1) (b2aY x j b e)).n → rowV (CM.mk 8 fam0 [(8, Src.nm 8), (9, Src.nm 1432125560571588806088043091146838491509462512433625502740269698905336475471608626472341327076149917959354303353928698802958474702691095546400415417299), (900, Src.nm 900), (901, Src.nm 901)]) bpF.sh 0 (lrow fam0 2 (bpT m f ii x).M j i) (lrow fam0 2 (bpT m f (ii + 1) (b2aY x j b e)).M j i),
 (0 : Nat) = 0,
 (0 : Nat) = 0,
 (0 : Nat) = 0,
 (0 : Nat) = 0,
 true = true,
 (1 : Nat) ≤ (1 : Nat),
 tabF tab = tabF tab ∧ plainSh (List.map kindOfV tab) = true ∨ ∀ (i : Nat), i < 1 → rowOb (List.map kindOfV tab) 0 (tabF tab i) (tabF tab i),
 true = true,
 m ≤ m,
 f = f ∧ plainSh asSh = true ∨ ∀ (i : Nat), i < m → rowOb asSh 0 (f i) (f i),
 (MS.mk (casM x.S.M 5 0 0 (BO.mk 2 b e).b (wU ((BO.mk 2 b e).b + 1))) (wI (x.S.st + 1)) (LS.mk 3 5 0 0 (mget x.S.M (key 5 0 0)) (casI x.S.M 5 0 0 (BO.mk 2 b e).b (wU ((BO.mk 2 b e).b + 1))) (casD x.S.M 5 0 0 (BO.mk 2 b e).b))).st = (b2aY x j b e).S.st,
 (3 : Int) = 3,
 (5 : Int) = 5,
 (0 : Int) = 0,
 (0 : Int) = 0,
 (MS.mk (casM x.S.M 5 0 0 (BO.mk 2 b e).b (wU ((BO.mk 2 b e).b + 1))) (wI (x.S.st + 1)) (LS.mk 3 5 0 0 (mget x.S.M (key 5 0 0)) (casI x.S.M 5 0 0 (BO.mk 2 b e).b (wU ((BO.mk 2 b e).b + 1))) (casD x.S.M 5 0 0 (BO.mk 2 b e).b))).L.w = (b2aY x j b e).S.L.w,
 (MS.mk (casM x.S.M 5 0 0 (BO.mk 2 b e).b (wU ((BO.mk 2 b e).b + 1))) (wI (x.S.st + 1)) (LS.mk 3 5 0 0 (mget x.S.M (key 5 0 0)) (casI x.S.M 5 0 0 (BO.mk 2 b e).b (wU ((BO.mk 2 b e).b + 1))) (casD x.S.M 5 0 0 (BO.mk 2 b e).b))).L.i = (b2aY x j b e).S.L.i,
 (MS.mk (casM x.S.M 5 0 0 (BO.mk 2 b e).b (wU ((BO.mk 2 b e).b + 1))) (wI (x.S.st + 1)) (LS.mk 3 5 0 0 (mget x.S.M (key 5 0 0)) (casI x.S.M 5 0 0 (BO.mk 2 b e).b (wU ((BO.mk 2 b e).b + 1))) (casD x.S.M 5 0 0 (BO.mk 2 b e).b))).L.d = (b2aY x j b e).S.L.d,
 ∀ (k : List Int), (MS.mk (casM x.S.M 5 0 0 (BO.mk 2 b e).b (wU ((BO.mk 2 b e).b + 1))) (wI (x.S.st + 1)) (LS.mk 3 5 0 0 (mget x.S.M (key 5 0 0)) (casI x.S.M 5 0 0 (BO.mk 2 b e).b (wU ((BO.mk 2 b e).b + 1))) (casD x.S.M 5 0 0 (BO.mk 2 b e).b))).M k = (b2aY x j b e).S.M k,
 (0 : Nat) = 0,
 (dCasM (xD x) 5 0 0 (BO.mk 2 b e).b (wU ((BO.mk 2 b e).b + 1))).n = (b2aY x j b e).R.D.n,
 (none : Option Nat) = none,
 wI (x.R.st + 1) = (b2aY x j b e).R.st,
 (3 : Int) = 3,
 (5 : Int) = 5,
 (0 : Int) = 0,
 (0 : Int) = 0,
 (LS.mk 3 5 0 0 (dWord (xD x) 5 0 0) (dWord (dCasM (xD x) 5 0 0 (BO.mk 2 b e).b (wU ((BO.mk 2 b e).b + 1))) 5 0 0) (dCasD (xD x) 5 0 0 (BO.mk 2 b e).b)).w = (b2aY x j b e).R.L.w,
 (LS.mk 3 5 0 0 (dWord (xD x) 5 0 0) (dWord (dCasM (xD x) 5 0 0 (BO.mk 2 b e).b (wU ((BO.mk 2 b e).b + 1))) 5 0 0) (dCasD (xD x) 5 0 0 (BO.mk 2 b e).b)).i = (b2aY x j b e).R.L.i,
 (LS.mk 3 5 0 0 (dWord (xD x) 5 0 0) (dWord (dCasM (xD x) 5 0 0 (BO.mk 2 b e).b (wU ((BO.mk 2 b e).b + 1))) 5 0 0) (dCasD (xD x) 5 0 0 (BO.mk 2 b e).b)).d = (b2aY x j b e).R.L.d,
 false = false,
 (b2aY x j b e).R.D.n ≤ (dCasM (xD x) 5 0 0 (BO.mk 2 b e).b (wU ((BO.mk 2 b e).b + 1))).n,
 wdF (b2aY x j b e).R.D.W = wdF (dCasM (xD x) 5 0 0 (BO.mk 2 b e).b (wU ((BO.mk 2 b e).b + 1))).W ∧ plainSh wSh = true ∨ ∀ (i : Nat), i < (b2aY x j b e).R.D.n → rowOb wSh 0 (wdF (dCasM (xD x) 5 0 0 (BO.mk 2 b e).b (wU ((BO.mk 2 b e).b + 1))).W i) (wdF (b2aY x j b e).R.D.W i),
 Both (MS.mk (casM x.S.M 5 0 0 (BO.mk 2 b e).b (wU ((BO.mk 2 b e).b + 1))) (wI (x.S.st + 1)) (LS.mk 3 5 0 0 (mget x.S.M (key 5 0 0)) (casI x.S.M 5 0 0 (BO.mk 2 b e).b (wU ((BO.mk 2 b e).b + 1))) (casD x.S.M 5 0 0 (BO.mk 2 b e).b))) (mkR (dCasM (xD x) 5 0 0 (BO.mk 2 b e).b (wU ((BO.mk 2 b e).b + 1))).n (wdF (dCasM (xD x) 5 0 0 (BO.mk 2 b e).b (wU ((BO.mk 2 b e).b + 1))).W) (wI (x.R.st + 1)) (LS.mk 3 5 0 0 (dWord (xD x) 5 0 0) (dWord (dCasM (xD x) 5 0 0 (BO.mk 2 b e).b (wU ((BO.mk 2 b e).b + 1))) 5 0 0) (dCasD (xD x) 5 0 0 (BO.mk 2 b e).b))),
 (!(BO.mk 2 b e).e == (BO.mk 2 b e).e) = false,
 casD x.S.M 5 0 0 (BO.mk 2 b e).b = true,
 (0 : Int) ≤ (5 : Int),
 dCasD (xD x) 5 0 0 (BO.mk 2 b e).b = true,
 x.R.D.n ≤ x.R.D.n,
 x.R.D.n ≤ 100000,
 (0 : Int) ≤ (5 : Int),
 (0 : Int) ≤ (0 : Int),
 (0 : Int) < (4294967296 : Int),
 (0 : Int) ≤ (0 : Int),
 (0 : Int) < (4294967296 : Int),
 lrow fam0 2 (bpT m f ii x).M j (0 + ((avInt (f (0 + ii) 1)).tmod (wU (Int.ofNat x.n))).toNat) 2 = AV.ptr 901 0 0,
 lrow fam0 2 (bpT m f ii x).M j (0 + ((avInt (f (0 + ii) 1)).tmod (wU (Int.ofNat x.n))).toNat) 1 = AV.nilp,
 lrow fam0 2 (bpT m f ii x).M j (0 + ((avInt (f (0 + ii) 1)).tmod (wU (Int.ofNat x.n))).toNat) 0 = AV.ptr 900 0 0,
 (0 + ((avInt (f (0 + ii) 1)).tmod (wU (Int.ofNat x.n))).toNat).blt (bpT m f ii x).n = true,
 (((avInt (f (0 + ii) 1)).tmod (wU (Int.ofNat x.n))).toNat.blt x.n && decide (0 ≤ (avInt (f (0 + ii) 1)).tmod (wU (Int.ofNat x.n)))) = true,
 decide (wU (Int.ofNat x.n) ≠ 0) = true,
 decide (Int.ofNat x.n > 0) = true,
 ((avInt (f (0 + ii) 0)).tmod 6 == 2) = false,
 ((avInt (f (0 + ii) 0)).tmod 6 == 1) = false,
 ((avInt (f (0 + ii) 0)).tmod 6 == 0) = false,
 (0 + ii).blt m = true,
 (ii.blt m && decide (0 ≤ Int.ofNat ii)) = true,
 decide (Int.ofNat ii < Int.ofNat m) = true]) := by kernel_rfl
theorem b2b_1 (m : Nat) (f : Nat → Nat → AV) (q : Nat) (h : Nat → Nat → AV) (ii : Nat) (x : GX BO) (j : Nat) (b e : Int) : roundB Ebp 3000 bpL (h0F bpF (bpU m f q h)) [(8, Src.nm 8), (9, Src.nm 1432125560571588806088043091146838491509462512433625502740269698905336475471608626472341327076149917959354303353928698802958474702691095546400415417299), (900, Src.nm 900), (901, Src.nm 901)] (locSt bpF (bpT m f ii x) true (bpMb (BO.mk 2 b e)) j []) [Hint.b true, Hint.b false, Hint.b false, Hint.b false, Hint.node [(3, [Hint.b true]), (12, [Hint.a (AV.ptr 900 0 0), Hint.a AV.nilp, Hint.a (AV.ptr 901 0 0)]), (14, [Hint.node [], Hint.b false, Hint.node [(4, [Hint.node [], Hint.b false])]])], Hint.b false] (locSt bpF (bpT m f (ii + 1) (b2bY x j b e)) true (bpMb (BO.mk 1 b e)) j []) =
 some (Ex.norm, [(0 : Nat) = 0,
 m = m,
 (none : Option Nat) = none,
 (0 : Nat) = 0,
 (0 : Nat) = 0,
 (0 : Nat) = 0,
 x.n = (b2bY x j b e).n,
 (none : Option Nat) = none,
 wI (Int.ofNat ii + 1) = Int.ofNat (ii + 1),
 (BO.mk 2 b e).b = (BO.mk 1 b e).b,
 (BO.mk 2 b e).e = (BO.mk 1 b e).e,
 (BO.mk 2 b e).e = (BO.mk 1 b e).e,
 (BO.mk 2 b e).b = (BO.mk 1 b e).b,
 false = false,
 (bpT m f (ii + 1) (b2bY x j b e)).n ≤ (bpT m f ii x).n,
 ∀ (i : Nat), i < (bpT m f (ii + 1) (b2bY x j b e)).n → rowV (CM.mk 8 fam0 [(8, Src.nm 8), (9, Src.nm 1432125560571588806088043091146838491509462512433625502740269698905336475471608626472341327076149917959354303353928698802958474702691095546400415417299), (900, Src.nm 900), (901, Src.nm 901)]) bpF.sh 0 (lrow fam0 2 (bpT m f ii x).M j i) (lrow fam0 2 (bpT m f (ii + 1) (b2bY x j b e)).M j i),
 (0 : Nat) = 0,
 (0 : Nat) = 0,
 (0 : Nat) = 0,
 (0 : Nat) = 0,
 true = true,
 (1 : Nat) ≤ (1 : Nat),
 tabF tab = tabF tab ∧ plainSh (List.map kindOfV tab) = true ∨ ∀ (i : Nat), i < 1 → rowOb (List.map kindOfV tab) 0 (tabF tab i) (tabF tab i),
 true = true,
 m ≤ m,
 f = f ∧ plainSh asSh = true ∨ ∀ (i : Nat), i < m → rowOb asSh 0 (f i) (f i),
 (MS.mk (casM x.S.M 5 0 0 (BO.mk 2 b e).b (wU ((BO.mk 2 b e).b + 1))) (wI (x.S.st + 1)) (LS.mk 3 5 0 0 (mget x.S.M (key 5 0 0)) (casI x.S.M 5 0 0 (BO.mk 2 b e).b (wU ((BO.mk 2 b e).b + 1))) (casD x.S.M 5 0 0 (BO.mk 2 b e).b))).st = (b2bY x j b e).S.st,
 (3 : Int) = 3,
 (5 : Int) = 5,
 (0 : Int) = 0,
 (0 : Int) = 0,
 (MS.mk (casM x.S.M 5 0 0 (BO.mk 2 b e).b (wU ((BO.mk 2 b e).b + 1))) (wI (x.S.st + 1)) (LS.mk 3 5 0 0 (mget x.S.M (key 5 0 0)) (casI x.S.M 5 0 0 (BO.mk 2 b e).b (wU ((BO.mk 2 b e).b + 1))) (casD x.S.M 5 0 0 (BO.mk 2 b e).b))).L.w = (b2bY x j b e).S.L.w,
 (MS.mk (casM x.S.M 5 0 0 (BO.mk 2 b e).b (wU ((BO.mk 2 b e).b + 1))) (wI (x.S.st + 1)) (LS.mk 3 5 0 0 (mget x.S.M (key 5 0 0)) (casI x.S.M 5 0 0 (BO.mk 2 b e).b (wU ((BO.mk 2 b e).b + 1))) (casD x.S.M 5 0 0 (BO.mk 2 b e).b))).L.i = (b2bY x j b e).S.L.i,
 (MS.mk (casM x.S.M 5 0 0 (BO.mk 2 b e).b (wU ((BO.mk 2 b e).b + 1))) (wI (x.S.st + 1)) (LS.mk 3 5 0 0 (mget x.S.M (key 5 0 0)) (casI x.S.M 5 0 0 (BO.mk 2 b e).b (wU ((BO.mk 2 b e).b + 1))) (casD x.S.M 5 0 0 (BO.mk 2 b e).b))).L.d = (b2bY x j b e).S.L.d,
 ∀ (k : List Int), (MS.mk (casM x.S.M 5 0 0 (BO.mk 2 b e).b (wU ((BO.mk 2 b e).b + 1))) (wI (x.S.st + 1)) (LS.mk 3 5 0 0 (mget x.S.M (key 5 0 0)) (casI x.S.M 5 0 0 (BO.mk 2 b e).b (wU ((BO.mk 2 b e).b + 1))) (casD x.S.M 5 0 0 (BO.mk 2 b e).b))).M k = (b2bY x j b e).S.M k,
 (0 : Nat) = 0,
 (dCasM (xD x) 5 0 0 (BO.mk 2 b e).b (wU ((BO.mk 2 b e).b + 1))).n = (b2bY x j b e).R.D.n,
 (none : Option Nat) = none,
 wI (x.R.st + 1) = (b2bY x j b e).R.st,
 (3 : Int) = 3,
 (5 : Int) = 5,
 (0 : Int) = 0,
 (0 : Int) = 0,
 (LS.mk 3 5 0 0 (dWord (xD x) 5 0 0) (dWord (dCasM (xD x) 5 0 0 (BO.mk 2 b e).b (wU ((BO.mk 2 b e).b + 1))) 5 0 0) (dCasD (xD x) 5 0 0 (BO.mk 2 b e).b)).w = (b2bY x j b e).R.L.w,
 (LS.mk 3 5 0 0 (dWord (xD x) 5 0 0) (dWord (dCasM (xD x) 5 0 0 (BO.mk 2 b e).b (wU ((BO.mk 2 b e).b + 1))) 5 0 0) (dCasD (xD x) 5 0 0 (BO.mk 2 b e).b)).i = (b2bY x j b e).R.L.i,
 (LS.mk 3 5 0 0 (dWord (xD x) 5 0 0) (dWord (dCasM (xD x) 5 0 0 (BO.mk 2 b e).b (wU ((BO.mk 2 b e).b + 1))) 5 0 0) (dCasD (xD x) 5 0 0 (BO.mk 2 b e).b)).d = (b2bY x j b e).R.L.d,
 false = false,
 (b2bY x j b e).R.D.n ≤ (dCasM (xD x) 5 0 0 (BO.mk 2 b e).b (wU ((BO.mk 2 b e).b + 1))).n,
 wdF (b2bY x j b e).R.D.W = wdF (dCasM (xD x) 5 0 0 (BO.mk 2 b e).b (wU ((BO.mk 2 b e).b + 1))).W ∧ plainSh wSh = true ∨ ∀ (i : Nat), i < (b2bY x j b e).R.D.n → rowOb wSh 0 (wdF (dCasM (xD x) 5 0 0 (BO.mk 2 b e).b (wU ((BO.mk 2 b e).b + 1))).W i) (wdF (b2bY x j b e).R.D.W i),
 Both (MS.mk (casM x.S.M 5 0 0 (BO.mk 2 b e).b (wU ((BO.mk 2 b e).b + 1))) (wI (x.S.st + 1)) (LS.mk 3 5 0 0 (mget x.S.M (key 5 0 0)) (casI x.S.M 5 0 0 (BO.mk 2 b e).b (wU ((BO.mk 2 b e).b + 1))) (casD x.S.M 5 0 0 (BO.mk 2 b e).b))) (mkR (dCasM (xD x) 5 0 0 (BO.mk 2 b e).b (wU ((BO.mk 2 b e).b + 1))).n (wdF (dCasM (xD x) 5 0 0 (BO.mk 2 b e).b (wU ((BO.mk 2 b e).b + 1))).W) (wI (x.R.st + 1)) (LS.mk 3 5 0 0 (dWord (xD x) 5 0 0) (dWord (dCasM (xD x) 5 0 0 (BO.mk 2 b e).b (wU ((BO.mk 2 b e).b + 1))) 5 0 0) (dCasD (xD x) 5 0 0 (BO.mk 2 b e).b))),
 (!(BO.mk 2 b e).e == (BO.mk 2 b e).e) = false,
 casD x.S.M 5 0 0 (BO.mk 2 b e).b = false,
 (0 : Int) ≤ (5 : Int),
 dCasD (xD x) 5 0 0 (BO.mk 2 b e).b = false,
 x.R.D.n ≤ x.R.D.n,
 x.R.D.n ≤ 100000,
 (0 : Int) ≤ (5 : Int),
 (0 : Int) ≤ (0 : Int),
 (0 : Int) < (4294967296 : Int),
 (0 : Int) ≤ (0 : Int),
 (0 : Int) < (4294967296 : Int),
 lrow fam0 2 (bpT m f ii x).M j (0 + ((avInt (f (0 + ii) 1)).tmod (wU (Int.ofNat x.n))).toNat) 2 = AV.ptr 901 0 0,
 lrow fam0 2 (bpT m f ii x).M j (0 + ((avInt (f (0 + ii) 1)).tmod (wU (Int.ofNat x.n))).toNat) 1 = AV.nilp,
 lrow fam0 2 (bpT m f ii x).M j (0 + ((avInt (f (0 + ii) 1)).tmod (wU (Int.ofNat x.n))).toNat) 0 = AV.ptr 900 0 0,
 (0 + ((avInt (f (0 + ii) 1)).tmod (wU (Int.ofNat x.n))).toNat).blt (bpT m f ii x).n = true,
 (((avInt (f (0 + ii) 1)).tmod (wU (Int.ofNat x.n))).toNat.blt x.n && decide (0 ≤ (avInt (f (0 + ii) 1)).tmod (wU (Int.ofNat x.n)))) = true,
 decide (wU (Int.ofNat x.n) ≠ 0) = true,
 decide (Int.ofNat x.n > 0) = true,
 ((avInt (f (0 + ii) 0)).tmod 6 == 2) = false,
 ((avInt (f (0 + ii) 0)).tmod 6 == 1) = false,
 ((avInt (f (0 + ii) 0)).tmod 6 == 0) = false,
 (0 + ii).blt m = true,
 (ii.blt m && decide (0 ≤ Int.ofNat ii)) = true,
 decide (Int.ofNat ii < Int.ofNat m) = true]) := by kernel_rfl
theorem b3_1 (m : Nat) (f : Nat → Nat → AV) (q : Nat) (h : Nat → Nat → AV) (ii : Nat) (x : GX BO) (j : Nat) (b e : Int) : roundB Ebp 3000 bpL (h0F bpF (bpU m f q h)) [(8, Src.nm 8), (9, Src.nm 1432108390954562068130770492362074629094780895143840845398939973542058535927045117761430665392583068753512924305807531066532549738824859460831230821342), (900, Src.nm 900), (901, Src.nm 901)] (locSt bpF (bpT m f ii x) true (bpMb (BO.mk 3 b e)) j []) [Hint.b true, Hint.b false, Hint.b false, Hint.b false, Hint.node [(3, [Hint.b true]), (12, [Hint.a (AV.ptr 900 0 0), Hint.a AV.nilp, Hint.a (AV.ptr 901 0 0)]), (14, [])], Hint.b false] (locSt bpF (bpT m f (ii + 1) (b3Y x j b e)) true (bpMb (BO.mk 0 b 0)) j []) =
 some (Ex.norm, [(0 : Nat) = 0,
 m = m,
 (none : Option Nat) = none,
 (0 : Nat) = 0,
 (0 : Nat) = 0,
 (0 : Nat) = 0,
 x.n = (gPut x (mCas x.S 7 (wI b) 0 4294967296 0) (rCas x.R 7 (wI b) 0 4294967296 0) j (BO.mk 0 b 0)).n,
 (none : Option Nat) = none,
 wI (Int.ofNat ii + 1) = Int.ofNat (ii + 1),
 (BO.mk 3 b e).b = (BO.mk 0 b 0).b,
 (0 : Int) = 0,
 (0 : Int) = 0,
 (BO.mk 3 b e).b = (BO.mk 0 b 0).b,
 false = false,
 (bpT m f (ii + 1) (gPut x (mCas x.S 7 (wI b) 0 4294967296 0) (rCas x.R 7 (wI b) 0 4294967296 0) j (BO.mk 0 b 0))).n ≤ (bpT m f ii x).n,
 ∀ (i : Nat), i < (bpT m f (ii + 1) (gPut x (mCas x.S 7 (wI b) 0 4294967296 0) (rCas x.R 7 (wI b) 0 4294967296 0) j (BO.mk 0 b 0))).n → rowV (CM.mk 8 fam0 [(8, Src.nm 8), (9, Src.nm 1432108390954562068130770492362074629094780895143840845398939973542058535927045117761430665392583068753512924305807531066532549738824859460831230821342), (900, Src.nm 900), (901, Src.nm 901)]) bpF.sh 0 (lrow fam0 2 (bpT m f ii x).M j i) (lrow fam0 2 (bpT m f (ii + 1) (gPut x (mCas x.S 7 (wI b) 0 4294967296 0) (rCas x.R 7 (wI b) 0 4294967296 0) j (BO.mk 0 b 0))).M j i),
 (0 : Nat) = 0,
 (0 : Nat) = 0,
 (0 : Nat) = 0,
 (0 : Nat) = 0,
 true = true,
 (1 : Nat) ≤ (1 : Nat),
 tabF tab = tabF tab ∧ plainSh (List.map kindOfV tab) = true ∨ ∀ (i : Nat), i < 1 → rowOb (List.map kindOfV tab) 0 (tabF tab i) (tabF tab i),
 true = true,
 m ≤ m,
 f = f ∧ plainSh asSh = true ∨ ∀ (i : Nat), i < m → rowOb asSh 0 (f i) (f i),
 (MS.mk (casM x.S.M 7 (wI (BO.mk 3 b e).b) 0 4294967296 0) (wI (x.S.st + 1)) (LS.mk 3 7 (wI (BO.mk 3 b e).b) 0 (mget x.S.M (key 7 (wI (BO.mk 3 b e).b) 0)) (casI x.S.M 7 (wI (BO.mk 3 b e).b) 0 4294967296 0) (casD x.S.M 7 (wI (BO.mk 3 b e).b) 0 4294967296))).st = (gPut x (mCas x.S 7 (wI b) 0 4294967296 0) (rCas x.R 7 (wI b) 0 4294967296 0) j (BO.mk 0 b 0)).S.st,
 (3 : Int) = 3,
 (7 : Int) = 7,
 (MS.mk (casM x.S.M 7 (wI (BO.mk 3 b e).b) 0 4294967296 0) (wI (x.S.st + 1)) (LS.mk 3 7 (wI (BO.mk 3 b e).b) 0 (mget x.S.M (key 7 (wI (BO.mk 3 b e).b) 0)) (casI x.S.M 7 (wI (BO.mk 3 b e).b) 0 4294967296 0) (casD x.S.M 7 (wI (BO.mk 3 b e).b) 0 4294967296))).L.a = (gPut x (mCas x.S 7 (wI b) 0 4294967296 0) (rCas x.R 7 (wI b) 0 4294967296 0) j (BO.mk 0 b 0)).S.L.a,
 (0 : Int) = 0,
 (MS.mk (casM x.S.M 7 (wI (BO.mk 3 b e).b) 0 4294967296 0) (wI (x.S.st + 1)) (LS.mk 3 7 (wI (BO.mk 3 b e).b) 0 (mget x.S.M (key 7 (wI (BO.mk 3 b e).b) 0)) (casI x.S.M 7 (wI (BO.mk 3 b e).b) 0 4294967296 0) (casD x.S.M 7 (wI (BO.mk 3 b e).b) 0 4294967296))).L.w = (gPut x (mCas x.S 7 (wI b) 0 4294967296 0) (rCas x.R 7 (wI b) 0 4294967296 0) j (BO.mk 0 b 0)).S.L.w,
 (MS.mk (casM x.S.M 7 (wI (BO.mk 3 b e).b) 0 4294967296 0) (wI (x.S.st + 1)) (LS.mk 3 7 (wI (BO.mk 3 b e).b) 0 (mget x.S.M (key 7 (wI (BO.mk 3 b e).b) 0)) (casI x.S.M 7 (wI (BO.mk 3 b e).b) 0 4294967296 0) (casD x.S.M 7 (wI (BO.mk 3 b e).b) 0 4294967296))).L.i = (gPut x (mCas x.S 7 (wI b) 0 4294967296 0) (rCas x.R 7 (wI b) 0 4294967296 0) j (BO.mk 0 b 0)).S.L.i,
 (MS.mk (casM x.S.M 7 (wI (BO.mk 3 b e).b) 0 4294967296 0) (wI (x.S.st + 1)) (LS.mk 3 7 (wI (BO.mk 3 b e).b) 0 (mget x.S.M (key 7 (wI (BO.mk 3 b e).b) 0)) (casI x.S.M 7 (wI (BO.mk 3 b e).b) 0 4294967296 0) (casD x.S.M 7 (wI (BO.mk 3 b e).b) 0 4294967296))).L.d = (gPut x (mCas x.S 7 (wI b) 0 4294967296 0) (rCas x.R 7 (wI b) 0 4294967296 0) j (BO.mk 0 b 0)).S.L.d,
 ∀ (k : List Int), (MS.mk (casM x.S.M 7 (wI (BO.mk 3 b e).b) 0 4294967296 0) (wI (x.S.st + 1)) (LS.mk 3 7 (wI (BO.mk 3 b e).b) 0 (mget x.S.M (key 7 (wI (BO.mk 3 b e).b) 0)) (casI x.S.M 7 (wI (BO.mk 3 b e).b) 0 4294967296 0) (casD x.S.M 7 (wI (BO.mk 3 b e).b) 0 4294967296))).M k = (gPut x (mCas x.S 7 (wI b) 0 4294967296 0) (rCas x.R 7 (wI b) 0 4294967296 0) j (BO.mk 0 b 0)).S.M k,
 (0 : Nat) = 0,
 (dCasM (xD x) 7 (wI (BO.mk 3 b e).b) 0 4294967296 0).n = (gPut x (mCas x.S 7 (wI b) 0 4294967296 0) (rCas x.R 7 (wI b) 0 4294967296 0) j (BO.mk 0 b 0)).R.D.n,
 (none : Option Nat) = none,
 wI (x.R.st + 1) = (gPut x (mCas x.S 7 (wI b) 0 4294967296 0) (rCas x.R 7 (wI b) 0 4294967296 0) j (BO.mk 0 b 0)).R.st,
 (3 : Int) = 3,
 (7 : Int) = 7,
 (LS.mk 3 7 (wI (BO.mk 3 b e).b) 0 (dWord (xD x) 7 (wI (BO.mk 3 b e).b) 0) (dWord (dCasM (xD x) 7 (wI (BO.mk 3 b e).b) 0 4294967296 0) 7 (wI (BO.mk 3 b e).b) 0) (dCasD (xD x) 7 (wI (BO.mk 3 b e).b) 0 4294967296)).a = (gPut x (mCas x.S 7 (wI b) 0 4294967296 0) (rCas x.R 7 (wI b) 0 4294967296 0) j (BO.mk 0 b 0)).R.L.a,
 (0 : Int) = 0,
 (LS.mk 3 7 (wI (BO.mk 3 b e).b) 0 (dWord (xD x) 7 (wI (BO.mk 3 b e).b) 0) (dWord (dCasM (xD x) 7 (wI (BO.mk 3 b e).b) 0 4294967296 0) 7 (wI (BO.mk 3 b e).b) 0) (dCasD (xD x) 7 (wI (BO.mk 3 b e).b) 0 4294967296)).w = (gPut x (mCas x.S 7 (wI b) 0 4294967296 0) (rCas x.R 7 (wI b) 0 4294967296 0) j (BO.mk 0 b 0)).R.L.w,
 (LS.mk 3 7 (wI (BO.mk 3 b e).b) 0 (dWord (xD x) 7 (wI (BO.mk 3 b e).b) 0) (dWord (dCasM (xD x) 7 (wI (BO.mk 3 b e).b) 0 4294967296 0) 7 (wI (BO.mk 3 b e).b) 0) (dCasD (xD x) 7 (wI (BO.mk 3 b e).b) 0 4294967296)).i = (gPut x (mCas x.S 7 (wI b) 0 4294967296 0) (rCas x.R 7 (wI b) 0 4294967296 0) j (BO.mk 0 b 0)).R.L.i,
 (LS.mk 3 7 (wI (BO.mk 3 b e).b) 0 (dWord (xD x) 7 (wI (BO.mk 3 b e).b) 0) (dWord (dCasM (xD x) 7 (wI (BO.mk 3 b e).b) 0 4294967296 0) 7 (wI (BO.mk 3 b e).b) 0) (dCasD (xD x) 7 (wI (BO.mk 3 b e).b) 0 4294967296)).d = (gPut x (mCas x.S 7 (wI b) 0 4294967296 0) (rCas x.R 7 (wI b) 0 4294967296 0) j (BO.mk 0 b 0)).R.L.d,
 false = false,
 (gPut x (mCas x.S 7 (wI b) 0 4294967296 0) (rCas x.R 7 (wI b) 0 4294967296 0) j (BO.mk 0 b 0)).R.D.n ≤ (dCasM (xD x) 7 (wI (BO.mk 3 b e).b) 0 4294967296 0).n,
 wdF (gPut x (mCas x.S 7 (wI b) 0 4294967296 0) (rCas x.R 7 (wI b) 0 4294967296 0) j (BO.mk 0 b 0)).R.D.W = wdF (dCasM (xD x) 7 (wI (BO.mk 3 b e).b) 0 4294967296 0).W ∧ plainSh wSh = true ∨ ∀ (i : Nat), i < (gPut x (mCas x.S 7 (wI b) 0 4294967296 0) (rCas x.R 7 (wI b) 0 4294967296 0) j (BO.mk 0 b 0)).R.D.n → rowOb wSh 0 (wdF (dCasM (xD x) 7 (wI (BO.mk 3 b e).b) 0 4294967296 0).W i) (wdF (gPut x (mCas x.S 7 (wI b) 0 4294967296 0) (rCas x.R 7 (wI b) 0 4294967296 0) j (BO.mk 0 b 0)).R.D.W i),
 Both (MS.mk (casM x.S.M 7 (wI (BO.mk 3 b e).b) 0 4294967296 0) (wI (x.S.st + 1)) (LS.mk 3 7 (wI (BO.mk 3 b e).b) 0 (mget x.S.M (key 7 (wI (BO.mk 3 b e).b) 0)) (casI x.S.M 7 (wI (BO.mk 3 b e).b) 0 4294967296 0) (casD x.S.M 7 (wI (BO.mk 3 b e).b) 0 4294967296))) (mkR (dCasM (xD x) 7 (wI (BO.mk 3 b e).b) 0 4294967296 0).n (wdF (dCasM (xD x) 7 (wI (BO.mk 3 b e).b) 0 4294967296 0).W) (wI (x.R.st + 1)) (LS.mk 3 7 (wI (BO.mk 3 b e).b) 0 (dWord (xD x) 7 (wI (BO.mk 3 b e).b) 0) (dWord (dCasM (xD x) 7 (wI (BO.mk 3 b e).b) 0 4294967296 0) 7 (wI (BO.mk 3 b e).b) 0) (dCasD (xD x) 7 (wI (BO.mk 3 b e).b) 0 4294967296))),
 (0 : Int) ≤ (7 : Int),
 TabIs tab (tabF tab),
 (0 : Int) ≤ (0 : Int),
 (0 : Int) < (4294967296 : Int),
 TabIs tab (tabF tab),
 (0 : Int) ≤ (0 : Int),
 (0 : Int) < (4294967296 : Int),
 x.R.D.n ≤ x.R.D.n,
 x.R.D.n ≤ 100000,
 (0 : Int) ≤ (7 : Int),
 (0 : Int) ≤ (0 : Int),
 (0 : Int) < (4294967296 : Int),
 (0 : Int) ≤ (0 : Int),
 (0 : Int) < (4294967296 : Int),
 lrow fam0 2 (bpT m f ii x).M j (0 + ((avInt (f (0 + ii) 1)).tmod (wU (Int.ofNat x.n))).toNat) 2 = AV.ptr 901 0 0,
 lrow fam0 2 (bpT m f ii x).M j (0 + ((avInt (f (0 + ii) 1)).tmod (wU (Int.ofNat x.n))).toNat) 1 = AV.nilp,
 lrow fam0 2 (bpT m f ii x).M j (0 + ((avInt (f (0 + ii) 1)).tmod (wU (Int.ofNat x.n))).toNat) 0 = AV.ptr 900 0 0,
 (0 + ((avInt (f (0 + ii) 1)).tmod (wU (Int.ofNat x.n))).toNat).blt (bpT m f ii x).n = true,
 (((avInt (f (0 + ii) 1)).tmod (wU (Int.ofNat x.n))).toNat.blt x.n && decide (0 ≤ (avInt (f (0 + ii) 1)).tmod (wU (Int.ofNat x.n)))) = true,
 decide (wU (Int.ofNat x.n) ≠ 0) = true,
 decide (Int.ofNat x.n > 0) = true,
 ((avInt (f (0 + ii) 0)).tmod 6 == 2) = false,
 ((avInt (f (0 + ii) 0)).tmod 6 == 1) = false,
 ((avInt (f (0 + ii) 0)).tmod 6 == 0) = false,
 (0 + ii).blt m = true,
 (ii.blt m && decide (0 ≤ Int.ofNat ii)) = true,
 decide (Int.ofNat ii < Int.ofNat m) = true]) := by kernel_rfl
theorem b4_1 (m : Nat) (f : Nat → Nat → AV) (q : Nat) (h : Nat → Nat → AV) (ii : Nat) (x : GX BO) (j : Nat) (b e : Int) : roundB Ebp 3000 bpL (h0F bpF (bpU m f q h)) [(8, Src.nm 8), (9, Src.nm 9), (900, Src.nm 900), (901, Src.nm 901)] (locSt bpF (bpT m f ii x) true (bpMb (BO.mk 4 b e)) j []) [Hint.b true, Hint.b false, Hint.b false, Hint.b false, Hint.node [(3, [Hint.b true]), (12, [Hint.a AV.nilp, Hint.a (AV.ptr 900 0 0), Hint.a (AV.ptr 901 0 0)]), (14, [])], Hint.b false] (locSt bpF (bpT m f (ii + 1) (b4Y x j b e)) true (bpMb (BO.mk 4 b e)) j []) =
 some (Ex.norm, [(0 : Nat) = 0,
 m = m,
 (none : Option Nat) = none,
 (0 : Nat) = 0,
 (0 : Nat) = 0,
 (0 : Nat) = 0,
 x.n = (b4Y x j b e).n,
 (none : Option Nat) = none,
 wI (Int.ofNat ii + 1) = Int.ofNat (ii + 1),
 (BO.mk 4 b e).b = (BO.mk 4 b e).b,
 (BO.mk 4 b e).e = (BO.mk 4 b e).e,
 (BO.mk 4 b e).e = (BO.mk 4 b e).e,
 (BO.mk 4 b e).b = (BO.mk 4 b e).b,
 false = false,
 (bpT m f (ii + 1) (b4Y x j b e)).n ≤ (bpT m f ii x).n,
 ∀ (i : Nat), i < (bpT m f (ii + 1) (b4Y x j b e)).n → rowV (CM.mk 8 fam0 [(8, Src.nm 8), (9, Src.nm 9), (900, Src.nm 900), (901, Src.nm 901)]) bpF.sh 0 (lrow fam0 2 (bpT m f ii x).M j i) (lrow fam0 2 (bpT m f (ii + 1) (b4Y x j b e)).M j i),
 (0 : Nat) = 0,
 (0 : Nat) = 0,
 (0 : Nat) = 0,
 (0 : Nat) = 0,
 true = true,
 (1 : Nat) ≤ (1 : Nat),
 tabF tab = tabF tab ∧ plainSh (List.map kindOfV tab) = true ∨ ∀ (i : Nat), i < 1 → rowOb (List.map kindOfV tab) 0 (tabF tab i) (tabF tab i),
 true = true,
 m ≤ m,
 f = f ∧ plainSh asSh = true ∨ ∀ (i : Nat), i < m → rowOb asSh 0 (f i) (f i),
 x.S.st = (b4Y x j b e).S.st,
 x.S.L.c = (b4Y x j b e).S.L.c,
 x.S.L.k = (b4Y x j b e).S.L.k,
 x.S.L.a = (b4Y x j b e).S.L.a,
 x.S.L.f = (b4Y x j b e).S.L.f,
 x.S.L.w = (b4Y x j b e).S.L.w,
 x.S.L.i = (b4Y x j b e).S.L.i,
 x.S.L.d = (b4Y x j b e).S.L.d,
 ∀ (k : List Int), x.S.M k = (b4Y x j b e).S.M k,
 (0 : Nat) = 0,
 x.R.D.n = (b4Y x j b e).R.D.n,
 (none : Option Nat) = none,
 x.R.st = (b4Y x j b e).R.st,
 x.R.L.c = (b4Y x j b e).R.L.c,
 x.R.L.k = (b4Y x j b e).R.L.k,
 x.R.L.a = (b4Y x j b e).R.L.a,
 x.R.L.f = (b4Y x j b e).R.L.f,
 x.R.L.w = (b4Y x j b e).R.L.w,
 x.R.L.i = (b4Y x j b e).R.L.i,
 x.R.L.d = (b4Y x j b e).R.L.d,
 false = false,
 (b4Y x j b e).R.D.n ≤ x.R.D.n,
 wdF (b4Y x j b e).R.D.W = wdF x.R.D.W ∧ plainSh wSh = true ∨ ∀ (i : Nat), i < (b4Y x j b e).R.D.n → rowOb wSh 0 (wdF x.R.D.W i) (wdF (b4Y x j b e).R.D.W i),
 Both x.S x.R,
 (!(BO.mk 4 b e).e == (BO.mk 4 b e).e) = false,
 (0 : Int) ≤ (0 : Int),
 (0 : Int) < (4294967296 : Int),
 (0 : Int) ≤ (0 : Int),
 (0 : Int) < (4294967296 : Int),
 lrow fam0 2 (bpT m f ii x).M j (0 + ((avInt (f (0 + ii) 1)).tmod (wU (Int.ofNat x.n))).toNat) 2 = AV.ptr 901 0 0,
 lrow fam0 2 (bpT m f ii x).M j (0 + ((avInt (f (0 + ii) 1)).tmod (wU (Int.ofNat x.n))).toNat) 1 = AV.ptr 900 0 0,
 lrow fam0 2 (bpT m f ii x).M j (0 + ((avInt (f (0 + ii) 1)).tmod (wU (Int.ofNat x.n))).toNat) 0 = AV.nilp,
 (0 + ((avInt (f (0 + ii) 1)).tmod (wU (Int.ofNat x.n))).toNat).blt (bpT m f ii x).n = true,
 (((avInt (f (0 + ii) 1)).tmod (wU (Int.ofNat x.n))).toNat.blt x.n && decide (0 ≤ (avInt (f (0 + ii) 1)).tmod (wU (Int.ofNat x.n)))) = true,
 decide (wU (Int.ofNat x.n) ≠ 0) = true,
 decide (Int.ofNat x.n > 0) = true,
 ((avInt (f (0 + ii) 0)).tmod 6 == 2) = false,
 ((avInt (f (0 + ii) 0)).tmod 6 == 1) = false,
 ((avInt (f (0 + ii) 0)).tmod 6 == 0) = false,
 (0 + ii).blt m = true,
 (ii.blt m && decide (0 ≤ Int.ofNat ii)) = true,
 decide (Int.ofNat ii < Int.ofNat m) = true]) := by kernel_rfl
theorem b5a_1 (m : Nat) (f : Nat → Nat → AV) (q : Nat) (h : Nat → Nat → AV) (ii : Nat) (x : GX BO) (j : Nat) (b e : Int) : roundB Ebp 3000 bpL (h0F bpF (bpU m f q h)) [(8, Src.nm 8), (9, Src.nm 9), (900, Src.nm 900), (901, Src.nm 901)] (locSt bpF (bpT m f ii x) true (bpMb (BO.mk 5 b e)) j []) [Hint.b true, Hint.b false, Hint.b false, Hint.b false, Hint.node [(3, [Hint.b true]), (12, [Hint.a AV.nilp, Hint.a (AV.ptr 900 0 0), Hint.a (AV.ptr 901 0 0)]), (14, [Hint.b true, Hint.node [(4, [Hint.b true])]])], Hint.b false] (locSt bpF (bpT m f (ii + 1) (b5aY x j b e)) true (bpMb (BO.mk 4 (mget x.S.M (key 5 0 0)) 4)) j []) =
 some (Ex.norm, [(0 : Nat) = 0,
 m = m,
 (none : Option Nat) = none,
 (0 : Nat) = 0,
 (0 : Nat) = 0,
 (0 : Nat) = 0,
 x.n = (b5aY x j b e).n,
 (none : Option Nat) = none,
 wI (Int.ofNat ii + 1) = Int.ofNat (ii + 1),
 mget x.S.M (key 5 0 0) = (BO.mk 4 (mget x.S.M (key 5 0 0)) 4).b,
 (4 : Int) = 4,
 (4 : Int) = 4,
 dWord (xD x) 5 0 0 = (BO.mk 4 (mget x.S.M (key 5 0 0)) 4).b,
 false = false,
 (bpT m f (ii + 1) (b5aY x j b e)).n ≤ (bpT m f ii x).n,
 ∀ (i : Nat), i < (bpT m f (ii + 1) (b5aY x j b e)).n → rowV (CM.mk 8 fam0 [(8, Src.nm 8), (9, Src.nm 9), (900, Src.nm 900), (901, Src.nm 901)]) bpF.sh 0 (lrow fam0 2 (bpT m f ii x).M j i) (lrow fam0 2 (bpT m f (ii + 1) (b5aY x j b e)).M j i),
 (0 : Nat) = 0,
 (0 : Nat) = 0,
 (0 : Nat) = 0,
 (0 : Nat) = 0,
 true = true,
 (1 : Nat) ≤ (1 : Nat),
 tabF tab = tabF tab ∧ plainSh (List.map kindOfV tab) = true ∨ ∀ (i : Nat), i < 1 → rowOb (List.map kindOfV tab) 0 (tabF tab i) (tabF tab i),
 true = true,
 m ≤ m,
 f = f ∧ plainSh asSh = true ∨ ∀ (i : Nat), i < m → rowOb asSh 0 (f i) (f i),
 (MS.mk x.S.M (wI (x.S.st + 1)) (LS.mk 1 5 0 0 (mget x.S.M (key 5 0 0)) (mget x.S.M (key 5 0 0)) false)).st = (b5aY x j b e).S.st,
 (1 : Int) = 1,
 (5 : Int) = 5,
 (0 : Int) = 0,
 (0 : Int) = 0,
 (MS.mk x.S.M (wI (x.S.st + 1)) (LS.mk 1 5 0 0 (mget x.S.M (key 5 0 0)) (mget x.S.M (key 5 0 0)) false)).L.w = (b5aY x j b e).S.L.w,
 (MS.mk x.S.M (wI (x.S.st + 1)) (LS.mk 1 5 0 0 (mget x.S.M (key 5 0 0)) (mget x.S.M (key 5 0 0)) false)).L.i = (b5aY x j b e).S.L.i,
 (MS.mk x.S.M (wI (x.S.st + 1)) (LS.mk 1 5 0 0 (mget x.S.M (key 5 0 0)) (mget x.S.M (key 5 0 0)) false)).L.d = (b5aY x j b e).S.L.d,
 ∀ (k : List Int), (MS.mk x.S.M (wI (x.S.st + 1)) (LS.mk 1 5 0 0 (mget x.S.M (key 5 0 0)) (mget x.S.M (key 5 0 0)) false)).M k = (b5aY x j b e).S.M k,
 (0 : Nat) = 0,
 x.R.D.n = (b5aY x j b e).R.D.n,
 (none : Option Nat) = none,
 wI (x.R.st + 1) = (b5aY x j b e).R.st,
 (1 : Int) = 1,
 (5 : Int) = 5,
 (0 : Int) = 0,
 (0 : Int) = 0,
 (LS.mk 1 5 0 0 (dWord (xD x) 5 0 0) (dWord (xD x) 5 0 0) false).w = (b5aY x j b e).R.L.w,
 (LS.mk 1 5 0 0 (dWord (xD x) 5 0 0) (dWord (xD x) 5 0 0) false).i = (b5aY x j b e).R.L.i,
 (LS.mk 1 5 0 0 (dWord (xD x) 5 0 0) (dWord (xD x) 5 0 0) false).d = (b5aY x j b e).R.L.d,
 false = false,
 (b5aY x j b e).R.D.n ≤ x.R.D.n,
 wdF (b5aY x j b e).R.D.W = wdF x.R.D.W ∧ plainSh wSh = true ∨ ∀ (i : Nat), i < (b5aY x j b e).R.D.n → rowOb wSh 0 (wdF x.R.D.W i) (wdF (b5aY x j b e).R.D.W i),
 Both (MS.mk x.S.M (wI (x.S.st + 1)) (LS.mk 1 5 0 0 (mget x.S.M (key 5 0 0)) (mget x.S.M (key 5 0 0)) false)) (mkR x.R.D.n (wdF x.R.D.W) (wI (x.R.st + 1)) (LS.mk 1 5 0 0 (dWord (xD x) 5 0 0) (dWord (xD x) 5 0 0) false)),
 decide (mget x.S.M (key 5 0 0) ≤ 1) = true,
 decide (dWord (xD x) 5 0 0 ≤ 1) = true,
 x.R.D.n ≤ x.R.D.n,
 x.R.D.n ≤ 1000000,
 (0 : Int) ≤ (0 : Int),
 (0 : Int) < (4294967296 : Int),
 (0 : Int) ≤ (0 : Int),
 (0 : Int) < (4294967296 : Int),
 lrow fam0 2 (bpT m f ii x).M j (0 + ((avInt (f (0 + ii) 1)).tmod (wU (Int.ofNat x.n))).toNat) 2 = AV.ptr 901 0 0,
 lrow fam0 2 (bpT m f ii x).M j (0 + ((avInt (f (0 + ii) 1)).tmod (wU (Int.ofNat x.n))).toNat) 1 = AV.ptr 900 0 0,
 lrow fam0 2 (bpT m f ii x).M j (0 + ((avInt (f (0 + ii) 1)).tmod (wU (Int.ofNat x.n))).toNat) 0 = AV.nilp,
 (0 + ((avInt (f (0 + ii) 1)).tmod (wU (Int.ofNat x.n))).toNat).blt (bpT m f ii x).n = true,
 (((avInt (f (0 + ii) 1)).tmod (wU (Int.ofNat x.n))).toNat.blt x.n && decide (0 ≤ (avInt (f (0 + ii) 1)).tmod (wU (Int.ofNat x.n)))) = true,
 decide (wU (Int.ofNat x.n) ≠ 0) = true,
 decide (Int.ofNat x.n > 0) = true,
 ((avInt (f (0 + ii) 0)).tmod 6 == 2) = false,
 ((avInt (f (0 + ii) 0)).tmod 6 == 1) = false,
 ((avInt (f (0 + ii) 0)).tmod 6 == 0) = false,
 (0 + ii).blt m = true,
 (ii.blt m && decide (0 ≤ Int.ofNat ii)) = true,
 decide (Int.ofNat ii < Int.ofNat m) = true]) := by kernel_rfl
theorem b5b_1 (m : Nat) (f : Nat → Nat → AV) (q : Nat) (h : Nat → Nat → AV) (ii : Nat) (x : GX BO) (j : Nat) (b e : Int) : roundB Ebp 3000 bpL (h0F bpF (bpU m f q h)) [(8, Src.nm 8), (9, Src.nm 9), (900, Src.nm 900), (901, Src.nm 901)] (locSt bpF (bpT m f ii x) true (bpMb (BO.mk 5 b e)) j []) [Hint.b true, Hint.b false, Hint.b false, Hint.b false, Hint.node [(3, [Hint.b true]), (12, [Hint.a AV.nilp, Hint.a (AV.ptr 900 0 0), Hint.a (AV.ptr 901 0 0)]), (14, [Hint.b false, Hint.b true, Hint.node [(4, [Hint.b false, Hint.b true])]])], Hint.b false] (locSt bpF (bpT m f (ii + 1) (b5bY x j b e)) true (bpMb (BO.mk 4 (mget x.S.M (key 5 0 0)) 1)) j []) =
 some (Ex.norm, [(0 : Nat) = 0,
 m = m,
 (none : Option Nat) = none,
 (0 : Nat) = 0,
 (0 : Nat) = 0,
 (0 : Nat) = 0,
 x.n = (b5bY x j b e).n,
 (none : Option Nat) = none,
 wI (Int.ofNat ii + 1) = Int.ofNat (ii + 1),
 mget x.S.M (key 5 0 0) = (BO.mk 4 (mget x.S.M (key 5 0 0)) 1).b,
 (1 : Int) = 1,
 (1 : Int) = 1,
 dWord (xD x) 5 0 0 = (BO.mk 4 (mget x.S.M (key 5 0 0)) 1).b,
 false = false,
 (bpT m f (ii + 1) (b5bY x j b e)).n ≤ (bpT m f ii x).n,
 ∀ (i : Nat), i < (bpT m f (ii + 1) (b5bY x j b e)).n → rowV (CM.mk 8 fam0 [(8, Src.nm 8), (9, Src.nm 9), (900, Src.nm 900), (901, Src.nm 901)]) bpF.sh 0 (lrow fam0 2 (bpT m f ii x).M j i) (lrow fam0 2 (bpT m f (ii + 1) (b5bY x j b e)).M j i),
 (0 : Nat) = 0,
 (0 : Nat) = 0,
 (0 : Nat) = 0,
 (0 : Nat) = 0,
 true = true,
 (1 : Nat) ≤ (1 : Nat),
 tabF tab = tabF tab ∧ plainSh (List.map kindOfV tab) = true ∨ ∀ (i : Nat), i < 1 → rowOb (List.map kindOfV tab) 0 (tabF tab i) (tabF tab i),
 true = true,
 m ≤ m,
 f = f ∧ plainSh asSh = true ∨ ∀ (i : Nat), i < m → rowOb asSh 0 (f i) (f i),
 (MS.mk x.S.M (wI (x.S.st + 1)) (LS.mk 1 5 0 0 (mget x.S.M (key 5 0 0)) (mget x.S.M (key 5 0 0)) false)).st = (b5bY x j b e).S.st,
 (1 : Int) = 1,
 (5 : Int) = 5,
 (0 : Int) = 0,
 (0 : Int) = 0,
 (MS.mk x.S.M (wI (x.S.st + 1)) (LS.mk 1 5 0 0 (mget x.S.M (key 5 0 0)) (mget x.S.M (key 5 0 0)) false)).L.w = (b5bY x j b e).S.L.w,
 (MS.mk x.S.M (wI (x.S.st + 1)) (LS.mk 1 5 0 0 (mget x.S.M (key 5 0 0)) (mget x.S.M (key 5 0 0)) false)).L.i = (b5bY x j b e).S.L.i,
 (MS.mk x.S.M (wI (x.S.st + 1)) (LS.mk 1 5 0 0 (mget x.S.M (key 5 0 0)) (mget x.S.M (key 5 0 0)) false)).L.d = (b5bY x j b e).S.L.d,
 ∀ (k : List Int), (MS.mk x.S.M (wI (x.S.st + 1)) (LS.mk 1 5 0 0 (mget x.S.M (key 5 0 0)) (mget x.S.M (key 5 0 0)) false)).M k = (b5bY x j b e).S.M k,
 (0 : Nat) = 0,
 x.R.D.n = (b5bY x j b e).R.D.n,
 (none : Option Nat) = none,
 wI (x.R.st + 1) = (b5bY x j b e).R.st,
 (1 : Int) = 1,
 (5 : Int) = 5,
 (0 : Int) = 0,
 (0 : Int) = 0,
 (LS.mk 1 5 0 0 (dWord (xD x) 5 0 0) (dWord (xD x) 5 0 0) false).w = (b5bY x j b e).R.L.w,
 (LS.mk 1 5 0 0 (dWord (xD x) 5 0 0) (dWord (xD x) 5 0 0) false).i = (b5bY x j b e).R.L.i,
 (LS.mk 1 5 0 0 (dWord (xD x) 5 0 0) (dWord (xD x) 5 0 0) false).d = (b5bY x j b e).R.L.d,
 false = false,
 (b5bY x j b e).R.D.n ≤ x.R.D.n,
 wdF (b5bY x j b e).R.D.W = wdF x.R.D.W ∧ plainSh wSh = true ∨ ∀ (i : Nat), i < (b5bY x j b e).R.D.n → rowOb wSh 0 (wdF x.R.D.W i) (wdF (b5bY x j b e).R.D.W i),
 Both (MS.mk x.S.M (wI (x.S.st + 1)) (LS.mk 1 5 0 0 (mget x.S.M (key 5 0 0)) (mget x.S.M (key 5 0 0)) false)) (mkR x.R.D.n (wdF x.R.D.W) (wI (x.R.st + 1)) (LS.mk 1 5 0 0 (dWord (xD x) 5 0 0) (dWord (xD x) 5 0 0) false)),
 decide (mget x.S.M (key 5 0 0) > 4) = true,
 decide (mget x.S.M (key 5 0 0) ≤ 1) = false,
 decide (dWord (xD x) 5 0 0 > 4) = true,
 decide (dWord (xD x) 5 0 0 ≤ 1) = false,
 x.R.D.n ≤ x.R.D.n,
 x.R.D.n ≤ 1000000,
 (0 : Int) ≤ (0 : Int),
 (0 : Int) < (4294967296 : Int),
 (0 : Int) ≤ (0 : Int),
 (0 : Int) < (4294967296 : Int),
 lrow fam0 2 (bpT m f ii x).M j (0 + ((avInt (f (0 + ii) 1)).tmod (wU (Int.ofNat x.n))).toNat) 2 = AV.ptr 901 0 0,
 lrow fam0 2 (bpT m f ii x).M j (0 + ((avInt (f (0 + ii) 1)).tmod (wU (Int.ofNat x.n))).toNat) 1 = AV.ptr 900 0 0,
 lrow fam0 2 (bpT m f ii x).M j (0 + ((avInt (f (0 + ii) 1)).tmod (wU (Int.ofNat x.n))).toNat) 0 = AV.nilp,
 (0 + ((avInt (f (0 + ii) 1)).tmod (wU (Int.ofNat x.n))).toNat).blt (bpT m f ii x).n = true,
 (((avInt (f (0 + ii) 1)).tmod (wU (Int.ofNat x.n))).toNat.blt x.n && decide (0 ≤ (avInt (f (0 + ii) 1)).tmod (wU (Int.ofNat x.n)))) = true,
 decide (wU (Int.ofNat x.n) ≠ 0) = true,
 decide (Int.ofNat x.n > 0) = true,
 ((avInt (f (0 + ii) 0)).tmod 6 == 2) = false,
 ((avInt (f (0 + ii) 0)).tmod 6 == 1) = false,
 ((avInt (f (0 + ii) 0)).tmod 6 == 0) = false,
 (0 + ii).blt m = true,
 (ii.blt m && decide (0 ≤ Int.ofNat ii)) = true,
 decide (Int.ofNat ii < Int.ofNat m) = true]) := by kernel_rfl
theorem b5c_1 (m : Nat) (f : Nat → Nat → AV) (q : Nat) (h : Nat → Nat → AV) (ii : Nat) (x : GX BO) (j : Nat) (b e : Int) : roundB Ebp 3000 bpL (h0F bpF (bpU m f q h)) [(8, Src.nm 8), (9, Src.nm 9), (900, Src.nm 900), (901, Src.nm 901)] (locSt bpF (bpT m f ii x) true (bpMb (BO.mk 5 b e)) j []) [Hint.b true, Hint.b false, Hint.b false, Hint.b false, Hint.node [(3, [Hint.b true]), (12, [Hint.a AV.nilp, Hint.a (AV.ptr 900 0 0), Hint.a (AV.ptr 901 0 0)]), (14, [Hint.b false, Hint.b false, Hint.node [(4, [Hint.b false, Hint.b false])]])], Hint.b false] (locSt bpF (bpT m f (ii + 1) (b5cY x j b e)) true (bpMb (BO.mk 6 (mget x.S.M (key 5 0 0)) e)) j []) =
 some (Ex.norm, [(0 : Nat) = 0,
 m = m,
 (none : Option Nat) = none,
 (0 : Nat) = 0,
 (0 : Nat) = 0,
 (0 : Nat) = 0,
 x.n = (b5cY x j b e).n,
 (none : Option Nat) = none,
 wI (Int.ofNat ii + 1) = Int.ofNat (ii + 1),
 mget x.S.M (key 5 0 0) = (BO.mk 6 (mget x.S.M (key 5 0 0)) e).b,
 (BO.mk 5 b e).e = (BO.mk 6 (mget x.S.M (key 5 0 0)) e).e,
 (BO.mk 5 b e).e = (BO.mk 6 (mget x.S.M (key 5 0 0)) e).e,
 dWord (xD x) 5 0 0 = (BO.mk 6 (mget x.S.M (key 5 0 0)) e).b,
 false = false,
 (bpT m f (ii + 1) (b5cY x j b e)).n ≤ (bpT m f ii x).n,
 ∀ (i : Nat), i < (bpT m f (ii + 1) (b5cY x j b e)).n → rowV (CM.mk 8 fam0 [(8, Src.nm 8), (9, Src.nm 9), (900, Src.nm 900), (901, Src.nm 901)]) bpF.sh 0 (lrow fam0 2 (bpT m f ii x).M j i) (lrow fam0 2 (bpT m f (ii + 1) (b5cY x j b e)).M j i),
 (0 : Nat) = 0,
 (0 : Nat) = 0,
 (0 : Nat) = 0,
 (0 : Nat) = 0,
 true = true,
 (1 : Nat) ≤ (1 : Nat),
 tabF tab = tabF tab ∧ plainSh (List.map kindOfV tab) = true ∨ ∀ (i : Nat), i < 1 → rowOb (List.map kindOfV tab) 0 (tabF tab i) (tabF tab i),
 true = true,
 m ≤ m,
 f = f ∧ plainSh asSh = true ∨ ∀ (i : Nat), i < m → rowOb asSh 0 (f i) (f i),
 (MS.mk x.S.M (wI (x.S.st + 1)) (LS.mk 1 5 0 0 (mget x.S.M (key 5 0 0)) (mget x.S.M (key 5 0 0)) false)).st = (b5cY x j b e).S.st,
 (1 : Int) = 1,
 (5 : Int) = 5,
 (0 : Int) = 0,
 (0 : Int) = 0,
 (MS.mk x.S.M (wI (x.S.st + 1)) (LS.mk 1 5 0 0 (mget x.S.M (key 5 0 0)) (mget x.S.M (key 5 0 0)) false)).L.w = (b5cY x j b e).S.L.w,
 (MS.mk x.S.M (wI (x.S.st + 1)) (LS.mk 1 5 0 0 (mget x.S.M (key 5 0 0)) (mget x.S.M (key 5 0 0)) false)).L.i = (b5cY x j b e).S.L.i,
 (MS.mk x.S.M (wI (x.S.st + 1)) (LS.mk 1 5 0 0 (mget x.S.M (key 5 0 0)) (mget x.S.M (key 5 0 0)) false)).L.d = (b5cY x j b e).S.L.d,
 ∀ (k : List Int), (MS.mk x.S.M (wI (x.S.st + 1)) (LS.mk 1 5 0 0 (mget x.S.M (key 5 0 0)) (mget x.S.M (key 5 0 0)) false)).M k = (b5cY x j b e).S.M k,
 (0 : Nat) = 0,
 x.R.D.n = (b5cY x j b e).R.D.n,
 (none : Option Nat) = none,
 wI (x.R.st + 1) = (b5cY x j b e).R.st,
 (1 : Int) = 1,
 (5 : Int) = 5,
 (0 : Int) = 0,
 (0 : Int) = 0,
 (LS.mk 1 5 0 0 (dWord (xD x) 5 0 0) (dWord (xD x) 5 0 0) false).w = (b5cY x j b e).R.L.w,
 (LS.mk 1 5 0 0 (dWord (xD x) 5 0 0) (dWord (xD x) 5 0 0) false).i = (b5cY x j b e).R.L.i,
 (LS.mk 1 5 0 0 (dWord (xD x) 5 0 0) (dWord (xD x) 5 0 0) false).d = (b5cY x j b e).R.L.d,
 false = false,
 (b5cY x j b e).R.D.n ≤ x.R.D.n,
 wdF (b5cY x j b e).R.D.W = wdF x.R.D.W ∧ plainSh wSh = true ∨ ∀ (i : Nat), i < (b5cY x j b e).R.D.n → rowOb wSh 0 (wdF x.R.D.W i) (wdF (b5cY x j b e).R.D.W i),
 Both (MS.mk x.S.M (wI (x.S.st + 1)) (LS.mk 1 5 0 0 (mget x.S.M (key 5 0 0)) (mget x.S.M (key 5 0 0)) false)) (mkR x.R.D.n (wdF x.R.D.W) (wI (x.R.st + 1)) (LS.mk 1 5 0 0 (dWord (xD x) 5 0 0) (dWord (xD x) 5 0 0) false)),
 (!(BO.mk 5 b e).e == (BO.mk 5 b e).e) = false,
 decide (mget x.S.M (key 5 0 0) > 4) = false,
 decide (mget x.S.M (key 5 0 0) ≤ 1) = false,
 decide (dWord (xD x) 5 0 0 > 4) = false,
 decide (dWord (xD x) 5 0 0 ≤ 1) = false,
 x.R.D.n ≤ x.R.D.n,
 x.R.D.n ≤ 1000000,
 (0 : Int) ≤ (0 : Int),
 (0 : Int) < (4294967296 : Int),
 (0 : Int) ≤ (0 : Int),
 (0 : Int) < (4294967296 : Int),
 lrow fam0 2 (bpT m f ii x).M j (0 + ((avInt (f (0 + ii) 1)).tmod (wU (Int.ofNat x.n))).toNat) 2 = AV.ptr 901 0 0,
 lrow fam0 2 (bpT m f ii x).M j (0 + ((avInt (f (0 + ii) 1)).tmod (wU (Int.ofNat x.n))).toNat) 1 = AV.ptr 900 0 0,
 lrow fam0 2 (bpT m f ii x).M j (0 + ((avInt (f (0 + ii) 1)).tmod (wU (Int.ofNat x.n))).toNat) 0 = AV.nilp,
 (0 + ((avInt (f (0 + ii) 1)).tmod (wU (Int.ofNat x.n))).toNat).blt (bpT m f ii x).n = true,
 (((avInt (f (0 + ii) 1)).tmod (wU (Int.ofNat x.n))).toNat.blt x.n && decide (0 ≤ (avInt (f (0 + ii) 1)).tmod (wU (Int.ofNat x.n)))) = true,
 decide (wU (Int.ofNat x.n) ≠ 0) = true,
 decide (Int.ofNat x.n > 0) = true,
 ((avInt (f (0 + ii) 0)).tmod 6 == 2) = false,
 ((avInt (f (0 + ii) 0)).tmod 6 == 1) = false,
 ((avInt (f (0 + ii) 0)).tmod 6 == 0) = false,
 (0 + ii).blt m = true,
 (ii.blt m && decide (0 ≤ Int.ofNat ii)) = true,
 decide (Int.ofNat ii < Int.ofNat m) = true]) := by kernel_rfl
theorem b6a_1 (m : Nat) (f : Nat → Nat → AV) (q : Nat) (h : Nat → Nat → AV) (ii : Nat) (x : GX BO) (j : Nat) (b e : Int) : roundB Ebp 3000 bpL (h0F bpF (bpU m f q h)) [(8, Src.nm 8), (9, Src.nm 1432108390954562068130770492362074629094780895143840845398939973542058535927045117761430665392583068753512924305807531066532549738824859460831230821342), (900, Src.nm 900), (901, Src.nm 901)] (locSt bpF (bpT m f ii x) true (bpMb (BO.mk 6 b e)) j []) [Hint.b true, Hint.b false, Hint.b false, Hint.b false, Hint.node [(3, [Hint.b true]), (12, [Hint.a AV.nilp, Hint.a (AV.ptr 900 0 0), Hint.a (AV.ptr 901 0 0)]), (14, [Hint.b false, Hint.node [(4, [Hint.b false])]])], Hint.b false] (locSt bpF (bpT m f (ii + 1) (b6aY x j b e)) true (bpMb (BO.mk 7 b e)) j []) =
 some (Ex.norm, [(0 : Nat) = 0,
 m = m,
 (none : Option Nat) = none,
 (0 : Nat) = 0,
 (0 : Nat) = 0,
 (0 : Nat) = 0,
 x.n = (gPut x (mCas x.S 7 (wI (wU (b - 1))) 0 0 4294967296) (rCas x.R 7 (wI (wI b - 1)) 0 0 4294967296) j (BO.mk 7 b e)).n,
 (none : Option Nat) = none,
 wI (Int.ofNat ii + 1) = Int.ofNat (ii + 1),
 (BO.mk 6 b e).b = (BO.mk 7 b e).b,
 (BO.mk 6 b e).e = (BO.mk 7 b e).e,
 (BO.mk 6 b e).e = (BO.mk 7 b e).e,
 (BO.mk 6 b e).b = (BO.mk 7 b e).b,
 false = false,
 (bpT m f (ii + 1) (gPut x (mCas x.S 7 (wI (wU (b - 1))) 0 0 4294967296) (rCas x.R 7 (wI (wI b - 1)) 0 0 4294967296) j (BO.mk 7 b e))).n ≤ (bpT m f ii x).n,
 ∀ (i : Nat), i < (bpT m f (ii + 1) (gPut x (mCas x.S 7 (wI (wU (b - 1))) 0 0 4294967296) (rCas x.R 7 (wI (wI b - 1)) 0 0 4294967296) j (BO.mk 7 b e))).n → rowV (CM.mk 8 fam0 [(8, Src.nm 8), (9, Src.nm 1432108390954562068130770492362074629094780895143840845398939973542058535927045117761430665392583068753512924305807531066532549738824859460831230821342), (900, Src.nm 900), (901, Src.nm 901)]) bpF.sh 0 (lrow fam0 2 (bpT m f ii x).M j i) (lrow fam0 2 (bpT m f (ii + 1) (gPut x (mCas x.S 7 (wI (wU (b - 1))) 0 0 4294967296) (rCas x.R 7 (wI (wI b - 1)) 0 0 4294967296) j (BO.mk 7 b e))).M j i),
 (0 : Nat) = 0,
 (0 : Nat) = 0,
 (0 : Nat) = 0,
 (0 : Nat) = 0,
 true = true,
 (1 : Nat) ≤ (1 : Nat),
 tabF tab = tabF tab ∧ plainSh (List.map kindOfV tab) = true ∨ ∀ (i : Nat), i < 1 → rowOb (List.map kindOfV tab) 0 (tabF tab i) (tabF tab i),
 true = true,
 m ≤ m,
 f = f ∧ plainSh asSh = true ∨ ∀ (i : Nat), i < m → rowOb asSh 0 (f i) (f i),
 (MS.mk (casM x.S.M 7 (wI (wU ((BO.mk 6 b e).b - 1))) 0 0 4294967296) (wI (x.S.st + 1)) (LS.mk 3 7 (wI (wU ((BO.mk 6 b e).b - 1))) 0 (mget x.S.M (key 7 (wI (wU ((BO.mk 6 b e).b - 1))) 0)) (casI x.S.M 7 (wI (wU ((BO.mk 6 b e).b - 1))) 0 0 4294967296) (casD x.S.M 7 (wI (wU ((BO.mk 6 b e).b - 1))) 0 0))).st = (gPut x (mCas x.S 7 (wI (wU (b - 1))) 0 0 4294967296) (rCas x.R 7 (wI (wI b - 1)) 0 0 4294967296) j (BO.mk 7 b e)).S.st,
 (3 : Int) = 3,
 (7 : Int) = 7,
 (MS.mk (casM x.S.M 7 (wI (wU ((BO.mk 6 b e).b - 1))) 0 0 4294967296) (wI (x.S.st + 1)) (LS.mk 3 7 (wI (wU ((BO.mk 6 b e).b - 1))) 0 (mget x.S.M (key 7 (wI (wU ((BO.mk 6 b e).b - 1))) 0)) (casI x.S.M 7 (wI (wU ((BO.mk 6 b e).b - 1))) 0 0 4294967296) (casD x.S.M 7 (wI (wU ((BO.mk 6 b e).b - 1))) 0 0))).L.a = (gPut x (mCas x.S 7 (wI (wU (b - 1))) 0 0 4294967296) (rCas x.R 7 (wI (wI b - 1)) 0 0 4294967296) j (BO.mk 7 b e)).S.L.a,
 (0 : Int) = 0,
 (MS.mk (casM x.S.M 7 (wI (wU ((BO.mk 6 b e).b - 1))) 0 0 4294967296) (wI (x.S.st + 1)) (LS.mk 3 7 (wI (wU ((BO.mk 6 b e).b - 1))) 0 (mget x.S.M (key 7 (wI (wU ((BO.mk 6 b e).b - 1))) 0)) (casI x.S.M 7 (wI (wU ((BO.mk 6 b e).b - 1))) 0 0 4294967296) (casD x.S.M 7 (wI (wU ((BO.mk 6 b e).b - 1))) 0 0))).L.w = (gPut x (mCas x.S 7 (wI (wU (b - 1))) 0 0 4294967296) (rCas x.R 7 (wI (wI b - 1)) 0 0 4294967296) j (BO.mk 7 b e)).S.L.w,
 (MS.mk (casM x.S.M 7 (wI (wU ((BO.mk 6 b e).b - 1))) 0 0 4294967296) (wI (x.S.st + 1)) (LS.mk 3 7 (wI (wU ((BO.mk 6 b e).b - 1))) 0 (mget x.S.M (key 7 (wI (wU ((BO.mk 6 b e).b - 1))) 0)) (casI x.S.M 7 (wI (wU ((BO.mk 6 b e).b - 1))) 0 0 4294967296) (casD x.S.M 7 (wI (wU ((BO.mk 6 b e).b - 1))) 0 0))).L.i = (gPut x (mCas x.S 7 (wI (wU (b - 1))) 0 0 4294967296) (rCas x.R 7 (wI (wI b - 1)) 0 0 4294967296) j (BO.mk 7 b e)).S.L.i,
 (MS.mk (casM x.S.M 7 (wI (wU ((BO.mk 6 b e).b - 1))) 0 0 4294967296) (wI (x.S.st + 1)) (LS.mk 3 7 (wI (wU ((BO.mk 6 b e).b - 1))) 0 (mget x.S.M (key 7 (wI (wU ((BO.mk 6 b e).b - 1))) 0)) (casI x.S.M 7 (wI (wU ((BO.mk 6 b e).b - 1))) 0 0 4294967296) (casD x.S.M 7 (wI (wU ((BO.mk 6 b e).b - 1))) 0 0))).L.d = (gPut x (mCas x.S 7 (wI (wU (b - 1))) 0 0 4294967296) (rCas x.R 7 (wI (wI b - 1)) 0 0 4294967296) j (BO.mk 7 b e)).S.L.d,
 ∀ (k : List Int), (MS.mk (casM x.S.M 7 (wI (wU ((BO.mk 6 b e).b - 1))) 0 0 4294967296) (wI (x.S.st + 1)) (LS.mk 3 7 (wI (wU ((BO.mk 6 b e).b - 1))) 0 (mget x.S.M (key 7 (wI (wU ((BO.mk 6 b e).b - 1))) 0)) (casI x.S.M 7 (wI (wU ((BO.mk 6 b e).b - 1))) 0 0 4294967296) (casD x.S.M 7 (wI (wU ((BO.mk 6 b e).b - 1))) 0 0))).M k = (gPut x (mCas x.S 7 (wI (wU (b - 1))) 0 0 4294967296) (rCas x.R 7 (wI (wI b - 1)) 0 0 4294967296) j (BO.mk 7 b e)).S.M k,
 (0 : Nat) = 0,
 (dCasM (xD x) 7 (wI (wI (BO.mk 6 b e).b - 1)) 0 0 4294967296).n = (gPut x (mCas x.S 7 (wI (wU (b - 1))) 0 0 4294967296) (rCas x.R 7 (wI (wI b - 1)) 0 0 4294967296) j (BO.mk 7 b e)).R.D.n,
 (none : Option Nat) = none,
 wI (x.R.st + 1) = (gPut x (mCas x.S 7 (wI (wU (b - 1))) 0 0 4294967296) (rCas x.R 7 (wI (wI b - 1)) 0 0 4294967296) j (BO.mk 7 b e)).R.st,
 (3 : Int) = 3,
 (7 : Int) = 7,
 (LS.mk 3 7 (wI (wI (BO.mk 6 b e).b - 1)) 0 (dWord (xD x) 7 (wI (wI (BO.mk 6 b e).b - 1)) 0) (dWord (dCasM (xD x) 7 (wI (wI (BO.mk 6 b e).b - 1)) 0 0 4294967296) 7 (wI (wI (BO.mk 6 b e).b - 1)) 0) (dCasD (xD x) 7 (wI (wI (BO.mk 6 b e).b - 1)) 0 0)).a = (gPut x (mCas x.S 7 (wI (wU (b - 1))) 0 0 4294967296) (rCas x.R 7 (wI (wI b - 1)) 0 0 4294967296) j (BO.mk 7 b e)).R.L.a,
 (0 : Int) = 0,
 (LS.mk 3 7 (wI (wI (BO.mk 6 b e).b - 1)) 0 (dWord (xD x) 7 (wI (wI (BO.mk 6 b e).b - 1)) 0) (dWord (dCasM (xD x) 7 (wI (wI (BO.mk 6 b e).b - 1)) 0 0 4294967296) 7 (wI (wI (BO.mk 6 b e).b - 1)) 0) (dCasD (xD x) 7 (wI (wI (BO.mk 6 b e).b - 1)) 0 0)).w = (gPut x (mCas x.S 7 (wI (wU (b - 1))) 0 0 4294967296) (rCas x.R 7 (wI (wI b - 1)) 0 0 4294967296) j (BO.mk 7 b e)).R.L.w,
 (LS.mk 3 7 (wI (wI (BO.mk 6 b e).b - 1)) 0 (dWord (xD x) 7 (wI (wI (BO.mk 6 b e).b - 1)) 0) (dWord (dCasM (xD x) 7 (wI (wI (BO.mk 6 b e).b - 1)) 0 0 4294967296) 7 (wI (wI (BO.mk 6 b e).b - 1)) 0) (dCasD (xD x) 7 (wI (wI (BO.mk 6 b e).b - 1)) 0 0)).i = (gPut x (mCas x.S 7 (wI (wU (b - 1))) 0 0 4294967296) (rCas x.R 7 (wI (wI b - 1)) 0 0 4294967296) j (BO.mk 7 b e)).R.L.i,
 (LS.mk 3 7 (wI (wI (BO.mk 6 b e).b - 1)) 0 (dWord (xD x) 7 (wI (wI (BO.mk 6 b e).b - 1)) 0) (dWord (dCasM (xD x) 7 (wI (wI (BO.mk 6 b e).b - 1)) 0 0 4294967296) 7 (wI (wI (BO.mk 6 b e).b - 1)) 0) (dCasD (xD x) 7 (wI (wI (BO.mk 6 b e).b - 1)) 0 0)).d = (gPut x (mCas x.S 7 (wI (wU (b - 1))) 0 0 4294967296) (rCas x.R 7 (wI (wI b - 1)) 0 0 4294967296) j (BO.mk 7 b e)).R.L.d,
 false = false,
 (gPut x (mCas x.S 7 (wI (wU (b - 1))) 0 0 4294967296) (rCas x.R 7 (wI (wI b - 1)) 0 0 4294967296) j (BO.mk 7 b e)).R.D.n ≤ (dCasM (xD x) 7 (wI (wI (BO.mk 6 b e).b - 1)) 0 0 4294967296).n,
 wdF (gPut x (mCas x.S 7 (wI (wU (b - 1))) 0 0 4294967296) (rCas x.R 7 (wI (wI b - 1)) 0 0 4294967296) j (BO.mk 7 b e)).R.D.W = wdF (dCasM (xD x) 7 (wI (wI (BO.mk 6 b e).b - 1)) 0 0 4294967296).W ∧ plainSh wSh = true ∨ ∀ (i : Nat), i < (gPut x (mCas x.S 7 (wI (wU (b - 1))) 0 0 4294967296) (rCas x.R 7 (wI (wI b - 1)) 0 0 4294967296) j (BO.mk 7 b e)).R.D.n → rowOb wSh 0 (wdF (dCasM (xD x) 7 (wI (wI (BO.mk 6 b e).b - 1)) 0 0 4294967296).W i) (wdF (gPut x (mCas x.S 7 (wI (wU (b - 1))) 0 0 4294967296) (rCas x.R 7 (wI (wI b - 1)) 0 0 4294967296) j (BO.mk 7 b e)).R.D.W i),
 Both (MS.mk (casM x.S.M 7 (wI (wU ((BO.mk 6 b e).b - 1))) 0 0 4294967296) (wI (x.S.st + 1)) (LS.mk 3 7 (wI (wU ((BO.mk 6 b e).b - 1))) 0 (mget x.S.M (key 7 (wI (wU ((BO.mk 6 b e).b - 1))) 0)) (casI x.S.M 7 (wI (wU ((BO.mk 6 b e).b - 1))) 0 0 4294967296) (casD x.S.M 7 (wI (wU ((BO.mk 6 b e).b - 1))) 0 0))) (mkR (dCasM (xD x) 7 (wI (wI (BO.mk 6 b e).b - 1)) 0 0 4294967296).n (wdF (dCasM (xD x) 7 (wI (wI (BO.mk 6 b e).b - 1)) 0 0 4294967296).W) (wI (x.R.st + 1)) (LS.mk 3 7 (wI (wI (BO.mk 6 b e).b - 1)) 0 (dWord (xD x) 7 (wI (wI (BO.mk 6 b e).b - 1)) 0) (dWord (dCasM (xD x) 7 (wI (wI (BO.mk 6 b e).b - 1)) 0 0 4294967296) 7 (wI (wI (BO.mk 6 b e).b - 1)) 0) (dCasD (xD x) 7 (wI (wI (BO.mk 6 b e).b - 1)) 0 0))),
 (!(BO.mk 6 b e).e == (BO.mk 6 b e).e) = false,
 (!casD x.S.M 7 (wI (wU ((BO.mk 6 b e).b - 1))) 0 0) = false,
 (0 : Int) ≤ (7 : Int),
 TabIs tab (tabF tab),
 (0 : Int) ≤ (0 : Int),
 (0 : Int) < (4294967296 : Int),
 TabIs tab (tabF tab),
 (0 : Int) ≤ (0 : Int),
 (0 : Int) < (4294967296 : Int),
 (!dCasD (xD x) 7 (wI (wI (BO.mk 6 b e).b - 1)) 0 0) = false,
 x.R.D.n ≤ x.R.D.n,
 x.R.D.n ≤ 100000,
 (0 : Int) ≤ (7 : Int),
 (0 : Int) ≤ (0 : Int),
 (0 : Int) < (4294967296 : Int),
 (0 : Int) ≤ (0 : Int),
 (0 : Int) < (4294967296 : Int),
 lrow fam0 2 (bpT m f ii x).M j (0 + ((avInt (f (0 + ii) 1)).tmod (wU (Int.ofNat x.n))).toNat) 2 = AV.ptr 901 0 0,
 lrow fam0 2 (bpT m f ii x).M j (0 + ((avInt (f (0 + ii) 1)).tmod (wU (Int.ofNat x.n))).toNat) 1 = AV.ptr 900 0 0,
 lrow fam0 2 (bpT m f ii x).M j (0 + ((avInt (f (0 + ii) 1)).tmod (wU (Int.ofNat x.n))).toNat) 0 = AV.nilp,
 (0 + ((avInt (f (0 + ii) 1)).tmod (wU (Int.ofNat x.n))).toNat).blt (bpT m f ii x).n = true,
 (((avInt (f (0 + ii) 1)).tmod (wU (Int.ofNat x.n))).toNat.blt x.n && decide (0 ≤ (avInt (f (0 + ii) 1)).tmod (wU (Int.ofNat x.n)))) = true,
 decide (wU (Int.ofNat x.n) ≠ 0) = true,
 decide (Int.ofNat x.n > 0) = true,
 ((avInt (f (0 + ii) 0)).tmod 6 == 2) = false,
 ((avInt (f (0 + ii) 0)).tmod 6 == 1) = false,
 ((avInt (f (0 + ii) 0)).tmod 6 == 0) = false,
 (0 + ii).blt m = true,
 (ii.blt m && decide (0 ≤ Int.ofNat ii)) = true,
 decide (Int.ofNat ii < Int.ofNat m) = true]) := by kernel_rfl
theorem b6b_1 (m : Nat) (f : Nat → Nat → AV) (q : Nat) (h : Nat → Nat → AV) (ii : Nat) (x : GX BO) (j : Nat) (b e : Int) : roundB Ebp 3000 bpL (h0F bpF (bpU m f q h)) [(8, Src.nm 8), (9, Src.nm 1432108390954562068130770492362074629094780895143840845398939973542058535927045117761430665392583068753512924305807531066532549738824859460831230821342), (900, Src.nm 900), (901, Src.nm 901)] (locSt bpF (bpT m f ii x) true (bpMb (BO.mk 6 b e)) j []) [Hint.b true, Hint.b false, Hint.b false, Hint.b false, Hint.node [(3, [Hint.b true]), (12, [Hint.a AV.nilp, Hint.a (AV.ptr 900 0 0), Hint.a (AV.ptr 901 0 0)]), (14, [Hint.b true, Hint.node [(4, [Hint.b true])]])], Hint.b false] (locSt bpF (bpT m f (ii + 1) (b6bY x j b e)) true (bpMb (BO.mk 4 b 7)) j []) =
 some (Ex.norm, [(0 : Nat) = 0,
 m = m,
 (none : Option Nat) = none,
 (0 : Nat) = 0,
 (0 : Nat) = 0,
 (0 : Nat) = 0,
 x.n = (gPut x (mCas x.S 7 (wI (wU (b - 1))) 0 0 4294967296) (rCas x.R 7 (wI (wI b - 1)) 0 0 4294967296) j (BO.mk 4 b 7)).n,
 (none : Option Nat) = none,
 wI (Int.ofNat ii + 1) = Int.ofNat (ii + 1),
 (BO.mk 6 b e).b = (BO.mk 4 b 7).b,
 (7 : Int) = 7,
 (7 : Int) = 7,
 (BO.mk 6 b e).b = (BO.mk 4 b 7).b,
 false = false,
 (bpT m f (ii + 1) (gPut x (mCas x.S 7 (wI (wU (b - 1))) 0 0 4294967296) (rCas x.R 7 (wI (wI b - 1)) 0 0 4294967296) j (BO.mk 4 b 7))).n ≤ (bpT m f ii x).n,
 ∀ (i : Nat), i < (bpT m f (ii + 1) (gPut x (mCas x.S 7 (wI (wU (b - 1))) 0 0 4294967296) (rCas x.R 7 (wI (wI b - 1)) 0 0 4294967296) j (BO.mk 4 b 7))).n → rowV (CM.mk 8 fam0 [(8, Src.nm 8), (9, Src.nm 1432108390954562068130770492362074629094780895143840845398939973542058535927045117761430665392583068753512924305807531066532549738824859460831230821342), (900, Src.nm 900), (901, Src.nm 901)]) bpF.sh 0 (lrow fam0 2 (bpT m f ii x).M j i) (lrow fam0 2 (bpT m f (ii + 1) (gPut x (mCas x.S 7 (wI (wU (b - 1))) 0 0 4294967296) (rCas x.R 7 (wI (wI b - 1)) 0 0 4294967296) j (BO.mk 4 b 7))).M j i),
 (0 : Nat) = 0,
 (0 : Nat) = 0,
 (0 : Nat) = 0,
 (0 : Nat) = 0,
 true = true,
 (1 : Nat) ≤ (1 : Nat),
 tabF tab = tabF tab ∧ plainSh (List.map kindOfV tab) = true ∨ ∀ (i : Nat), i < 1 → rowOb (List.map kindOfV tab) 0 (tabF tab i) (tabF tab i),
 true = true,
 m ≤ m,
 f = f ∧ plainSh asSh = true ∨ ∀ (i : Nat), i < m → rowOb asSh 0 (f i) (f i),
 (MS.mk (casM x.S.M 7 (wI (wU ((BO.mk 6 b e).b - 1))) 0 0 4294967296) (wI (x.S.st + 1)) (LS.mk 3 7 (wI (wU ((BO.mk 6 b e).b - 1))) 0 (mget x.S.M (key 7 (wI (wU ((BO.mk 6 b e).b - 1))) 0)) (casI x.S.M 7 (wI (wU ((BO.mk 6 b e).b - 1))) 0 0 4294967296) (casD x.S.M 7 (wI (wU ((BO.mk 6 b e).b - 1))) 0 0))).st = (gPut x (mCas x.S 7 (wI (wU (b - 1))) 0 0 4294967296) (rCas x.R 7 (wI (wI b - 1)) 0 0 4294967296) j (BO.mk 4 b 7)).S.st,
 (3 : Int) = 3,
 (7 : Int) = 7,
 (MS.mk (casM x.S.M 7 (wI (wU ((BO.mk 6 b e).b - 1))) 0 0 4294967296) (wI (x.S.st + 1)) (LS.mk 3 7 (wI (wU ((BO.mk 6 b e).b - 1))) 0 (mget x.S.M (key 7 (wI (wU ((BO.mk 6 b e).b - 1))) 0)) (casI x.S.M 7 (wI (wU ((BO.mk 6 b e).b - 1))) 0 0 4294967296) (casD x.S.M 7 (wI (wU ((BO.mk 6 b e).b - 1))) 0 0))).L.a = (gPut x (mCas x.S 7 (wI (wU (b - 1))) 0 0 4294967296) (rCas x.R 7 (wI (wI b - 1)) 0 0 4294967296) j (BO.mk 4 b 7)).S.L.a,
 (0 : Int) = 0,
 (MS.mk (casM x.S.M 7 (wI (wU ((BO.mk 6 b e).b - 1))) 0 0 4294967296) (wI (x.S.st + 1)) (LS.mk 3 7 (wI (wU ((BO.mk 6 b e).b - 1))) 0 (mget x.S.M (key 7 (wI (wU ((BO.mk 6 b e).b - 1))) 0)) (casI x.S.M 7 (wI (wU ((BO.mk 6 b e).b - 1))) 0 0 4294967296) (casD x.S.M 7 (wI (wU ((BO.mk 6 b e).b - 1))) 0 0))).L.w = (gPut x (mCas x.S 7 (wI (wU (b - 1))) 0 0 4294967296) (rCas x.R 7 (wI (wI b - 1)) 0 0 4294967296) j (BO.mk 4 b 7)).S.L.w,
 (MS.mk (casM x.S.M 7 (wI (wU ((BO.mk 6 b e).b - 1))) 0 0 4294967296) (wI (x.S.st + 1)) (LS.mk 3 7 (wI (wU ((BO.mk 6 b e).b - 1))) 0 (mget x.S.M (key 7 (wI (wU ((BO.mk 6 b e).b - 1))) 0)) (casI x.S.M 7 (wI (wU ((BO.mk 6 b e).b - 1))) 0 0 4294967296) (casD x.S.M 7 (wI (wU ((BO.mk 6 b e).b - 1))) 0 0))).L.i = (gPut x (mCas x.S 7 (wI (wU (b - 1))) 0 0 4294967296) (rCas x.R 7 (wI (wI b - 1)) 0 0 4294967296) j (BO.mk 4 b 7)).S.L.i,
 (MS.mk (casM x.S.M 7 (wI (wU ((BO.mk 6 b e).b - 1))) 0 0 4294967296) (wI (x.S.st + 1)) (LS.mk 3 7 (wI (wU ((BO.mk 6 b e).b - 1))) 0 (mget x.S.M (key 7 (wI (wU ((BO.mk 6 b e).b - 1))) 0)) (casI x.S.M 7 (wI (wU ((BO.mk 6 b e).b - 1))) 0 0 4294967296) (casD x.S.M 7 (wI (wU ((BO.mk 6 b e).b - 1))) 0 0))).L.d = (gPut x (mCas x.S 7 (wI (wU (b - 1))) 0 0 4294967296) (rCas x.R 7 (wI (wI b - 1)) 0 0 4294967296) j (BO.mk 4 b 7)).S.L.d,
 ∀ (k : List Int), (MS.mk (casM x.S.M 7 (wI (wU ((BO.mk 6 b e).b - 1))) 0 0 4294967296) (wI (x.S.st + 1)) (LS.mk 3 7 (wI (wU ((BO.mk 6 b e).b - 1))) 0 (mget x.S.M (key 7 (wI (wU ((BO.mk 6 b e).b - 1))) 0)) (casI x.S.M 7 (wI (wU ((BO.mk 6 b e).b - 1))) 0 0 4294967296) (casD x.S.M 7 (wI (wU ((BO.mk 6 b e).b - 1))) 0 0))).M k = (gPut x (mCas x.S 7 (wI (wU (b - 1))) 0 0 4294967296) (rCas x.R 7 (wI (wI b - 1)) 0 0 4294967296) j (BO.mk 4 b 7)).S.M k,
 (0 : Nat) = 0,
 (dCasM (xD x) 7 (wI (wI (BO.mk 6 b e).b - 1)) 0 0 4294967296).n = (gPut x (mCas x.S 7 (wI (wU (b - 1))) 0 0 4294967296) (rCas x.R 7 (wI (wI b - 1)) 0 0 4294967296) j (BO.mk 4 b 7)).R.D.n,
 (none : Option Nat) = none,
 wI (x.R.st + 1) = (gPut x (mCas x.S 7 (wI (wU (b - 1))) 0 0 4294967296) (rCas x.R 7 (wI (wI b - 1)) 0 0 4294967296) j (BO.mk 4 b 7)).R.st,
 (3 : Int) = 3,
 (7 : Int) = 7,
 (LS.mk 3 7 (wI (wI (BO.mk 6 b e).b - 1)) 0 (dWord (xD x) 7 (wI (wI (BO.mk 6 b e).b - 1)) 0) (dWord (dCasM (xD x) 7 (wI (wI (BO.mk 6 b e).b - 1)) 0 0 4294967296) 7 (wI (wI (BO.mk 6 b e).b - 1)) 0) (dCasD (xD x) 7 (wI (wI (BO.mk 6 b e).b - 1)) 0 0)).a = (gPut x (mCas x.S 7 (wI (wU (b - 1))) 0 0 4294967296) (rCas x.R 7 (wI (wI b - 1)) 0 0 4294967296) j (BO.mk 4 b 7)).R.L.a,
 (0 : Int) = 0,
 (LS.mk 3 7 (wI (wI (BO.mk 6 b e).b - 1)) 0 (dWord (xD x) 7 (wI (wI (BO.mk 6 b e).b - 1)) 0) (dWord (dCasM (xD x) 7 (wI (wI (BO.mk 6 b e).b - 1)) 0 0 4294967296) 7 (wI (wI (BO.mk 6 b e).b - 1)) 0) (dCasD (xD x) 7 (wI (wI (BO.mk 6 b e).b - 1)) 0 0)).w = (gPut x (mCas x.S 7 (wI (wU (b - 1))) 0 0 4294967296) (rCas x.R 7 (wI (wI b - 1)) 0 0 4294967296) j (BO.mk 4 b 7)).R.L.w,
 (LS.mk 3 7 (wI (wI (BO.mk 6 b e).b - 1)) 0 (dWord (xD x) 7 (wI (wI (BO.mk 6 b e).b - 1)) 0) (dWord (dCasM (xD x) 7 (wI (wI (BO.mk 6 b e).b - 1)) 0 0 4294967296) 7 (wI (wI (BO.mk 6 b e).b - 1)) 0) (dCasD (xD x) 7 (wI (wI (BO.mk 6 b e).b - 1)) 0 0)).i = (gPut x (mCas x.S 7 (wI (wU (b - 1))) 0 0 4294967296) (rCas x.R 7 (wI (wI b - 1)) 0 0 4294967296) j (BO.mk 4 b 7)).R.L.i,
 (LS.mk 3 7 (wI (wI (BO.mk 6 b e).b - 1)) 0 (dWord (xD x) 7 (wI (wI (BO.mk 6 b e).b - 1)) 0) (dWord (dCasM (xD x) 7 (wI (wI (BO.mk 6 b e).b - 1)) 0 0 4294967296) 7 (wI (wI (BO.mk 6 b e).b - 1)) 0) (dCasD (xD x) 7 (wI (wI (BO.mk 6 b e).b - 1)) 0 0)).d = (gPut x (mCas x.S 7 (wI (wU (b - 1))) 0 0 4294967296) (rCas x.R 7 (wI (wI b - 1)) 0 0 4294967296) j (BO.mk 4 b 7)).R.L.d,
 false = false,
 (gPut x (mCas x.S 7 (wI (wU (b - 1))) 0 0 4294967296) (rCas x.R 7 (wI (wI b - 1)) 0 0 4294967296) j (BO.mk 4 b 7)).R.D.n ≤ (dCasM (xD x) 7 (wI (wI (BO.mk 6 b e).b - 1)) 0 0 4294967296).n,
 wdF (gPut x (mCas x.S 7 (wI (wU (b - 1))) 0 0 4294967296) (rCas x.R 7 (wI (wI b - 1)) 0 0 4294967296) j (BO.mk 4 b 7)).R.D.W = wdF (dCasM (xD x) 7 (wI (wI (BO.mk 6 b e).b - 1)) 0 0 4294967296).W ∧ plainSh wSh = true ∨ ∀ (i : Nat), i < (gPut x (mCas x.S 7 (wI (wU (b - 1))) 0 0 4294967296) (rCas x.R 7 (wI (wI b - 1)) 0 0 4294967296) j (BO.mk 4 b 7)).R.D.n → rowOb wSh 0 (wdF (dCasM (xD x) 7 (wI (wI (BO.mk 6 b e).b - 1)) 0 0 4294967296).W i) (wdF (gPut x (mCas x.S 7 (wI (wU (b - 1))) 0 0 4294967296) (rCas x.R 7 (wI (wI b - 1)) 0 0 4294967296) j (BO.mk 4 b 7)).R.D.W i),
 Both (MS.mk (casM x.S.M 7 (wI (wU ((BO.mk 6 b e).b - 1))) 0 0 4294967296) (wI (x.S.st + 1)) (LS.mk 3 7 (wI (wU ((BO.mk 6 b e).b - 1))) 0 (mget x.S.M (key 7 (wI (wU ((BO.mk 6 b e).b - 1))) 0)) (casI x.S.M 7 (wI (wU ((BO.mk 6 b e).b - 1))) 0 0 4294967296) (casD x.S.M 7 (wI (wU ((BO.mk 6 b e).b - 1))) 0 0))) (mkR (dCasM (xD x) 7 (wI (wI (BO.mk 6 b e).b - 1)) 0 0 4294967296).n (wdF (dCasM (xD x) 7 (wI (wI (BO.mk 6 b e).b - 1)) 0 0 4294967296).W) (wI (x.R.st + 1)) (LS.mk 3 7 (wI (wI (BO.mk 6 b e).b - 1)) 0 (dWord (xD x) 7 (wI (wI (BO.mk 6 b e).b - 1)) 0) (dWord (dCasM (xD x) 7 (wI (wI (BO.mk 6 b e).b - 1)) 0 0 4294967296) 7 (wI (wI (BO.mk 6 b e).b - 1)) 0) (dCasD (xD x) 7 (wI (wI (BO.mk 6 b e).b - 1)) 0 0))),
 (!casD x.S.M 7 (wI (wU ((BO.mk 6 b e).b - 1))) 0 0) = true,
 (0 : Int) ≤ (7 : Int),
 TabIs tab (tabF tab),
 (0 : Int) ≤ (0 : Int),
 (0 : Int) < (4294967296 : Int),
 TabIs tab (tabF tab),
 (0 : Int) ≤ (0 : Int),
 (0 : Int) < (4294967296 : Int),
 (!dCasD (xD x) 7 (wI (wI (BO.mk 6 b e).b - 1)) 0 0) = true,
 x.R.D.n ≤ x.R.D.n,
 x.R.D.n ≤ 100000,
 (0 : Int) ≤ (7 : Int),
 (0 : Int) ≤ (0 : Int),
 (0 : Int) < (4294967296 : Int),
 (0 : Int) ≤ (0 : Int),
 (0 : Int) < (4294967296 : Int),
 lrow fam0 2 (bpT m f ii x).M j (0 + ((avInt (f (0 + ii) 1)).tmod (wU (Int.ofNat x.n))).toNat) 2 = AV.ptr 901 0 0,
 lrow fam0 2 (bpT m f ii x).M j (0 + ((avInt (f (0 + ii) 1)).tmod (wU (Int.ofNat x.n))).toNat) 1 = AV.ptr 900 0 0,
 lrow fam0 2 (bpT m f ii x).M j (0 + ((avInt (f (0 + ii) 1)).tmod (wU (Int.ofNat x.n))).toNat) 0 = AV.nilp,
 (0 + ((avInt (f (0 + ii) 1)).tmod (wU (Int.ofNat x.n))).toNat).blt (bpT m f ii x).n = true,
 (((avInt (f (0 + ii) 1)).tmod (wU (Int.ofNat x.n))).toNat.blt x.n && decide (0 ≤ (avInt (f (0 + ii) 1)).tmod (wU (Int.ofNat x.n)))) = true,
 decide (wU (Int.ofNat x.n) ≠ 0) = true,
 decide (Int.ofNat x.n > 0) = true,
 ((avInt (f (0 + ii) 0)).tmod 6 == 2) = false,
 ((avInt (f (0 + ii) 0)).tmod 6 == 1) = false,
 ((avInt (f (0 + ii) 0)).tmod 6 == 0) = false,
 (0 + ii).blt m = true,
 (ii.blt m && decide (0 ≤ Int.ofNat ii)) = true,
 decide (Int.ofNat ii < Int.ofNat m) = true]) := by kernel_rfl
theorem b7a_1 (m : Nat) (f : Nat → Nat → AV) (q : Nat) (h : Nat → Nat → AV) (ii : Nat) (x : GX BO) (j : Nat) (b e : Int) : roundB Ebp 3000 bpL (h0F bpF (bpU m f q h)) [(8, Src.nm 8), (9, Src.nm 1432125560571588806088043091146838491509462512433625502740269698905336475471608626472341327076149917959354303353928698802958474702691095546400415417299), (900, Src.nm 900), (901, Src.nm 901)] (locSt bpF (bpT m f ii x) true (bpMb (BO.mk 7 b e)) j []) [Hint.b true, Hint.b false, Hint.b false, Hint.b false, Hint.node [(3, [Hint.b true]), (12, [Hint.a AV.nilp, Hint.a (AV.ptr 900 0 0), Hint.a (AV.ptr 901 0 0)]), (14, [Hint.node [], Hint.b true, Hint.node [(4, [Hint.node [], Hint.b true])]])], Hint.b false] (locSt bpF (bpT m f (ii + 1) (b7aY x j b e)) true (bpMb (BO.mk 4 b 0)) j []) =
 some (Ex.norm, [(0 : Nat) = 0,
 m = m,
 (none : Option Nat) = none,
 (0 : Nat) = 0,
 (0 : Nat) = 0,
 (0 : Nat) = 0,
 x.n = (b7aY x j b e).n,
 (none : Option Nat) = none,
 wI (Int.ofNat ii + 1) = Int.ofNat (ii + 1),
 (BO.mk 7 b e).b = (BO.mk 4 b 0).b,
 (0 : Int) = 0,
 (0 : Int) = 0,
 (BO.mk 7 b e).b = (BO.mk 4 b 0).b,
 false = false,
 (bpT m f (ii + 1) (b7aY x j b e)).n ≤ (bpT m f ii x).n,
 ∀ (i : Nat), i < (bpT m f (ii + 1) (b7aY x j b e)).n → rowV (CM.mk 8 fam0 [(8, Src.nm 8), (9, Src.nm 1432125560571588806088043091146838491509462512433625502740269698905336475471608626472341327076149917959354303353928698802958474702691095546400415417299), (900, Src.nm 900), (901, Src.nm 901)]) bpF.sh 0 (lrow fam0 2 (bpT m f ii x).M j i) (lrow fam0 2 (bpT m f (ii + 1) (b7aY x j b e)).M j i),
 (0 : Nat) = 0,
 (0 : Nat) = 0,
 (0 : Nat) = 0,
 (0 : Nat) = 0,
 true = true,
 (1 : Nat) ≤ (1 : Nat),
 tabF tab = tabF tab ∧ plainSh (List.map kindOfV tab) = true ∨ ∀ (i : Nat), i < 1 → rowOb (List.map kindOfV tab) 0 (tabF tab i) (tabF tab i),
 true = true,
 m ≤ m,
 f = f ∧ plainSh asSh = true ∨ ∀ (i : Nat), i < m → rowOb asSh 0 (f i) (f i),
 (MS.mk (casM x.S.M 5 0 0 (BO.mk 7 b e).b (wU ((BO.mk 7 b e).b - 1))) (wI (x.S.st + 1)) (LS.mk 3 5 0 0 (mget x.S.M (key 5 0 0)) (casI x.S.M 5 0 0 (BO.mk 7 b e).b (wU ((BO.mk 7 b e).b - 1))) (casD x.S.M 5 0 0 (BO.mk 7 b e).b))).st = (b7aY x j b e).S.st,
 (3 : Int) = 3,
 (5 : Int) = 5,
 (0 : Int) = 0,
 (0 : Int) = 0,
 (MS.mk (casM x.S.M 5 0 0 (BO.mk 7 b e).b (wU ((BO.mk 7 b e).b - 1))) (wI (x.S.st + 1)) (LS.mk 3 5 0 0 (mget x.S.M (key 5 0 0)) (casI x.S.M 5 0 0 (BO.mk 7 b e).b (wU ((BO.mk 7 b e).b - 1))) (casD x.S.M 5 0 0 (BO.mk 7 b e).b))).L.w = (b7aY x j b e).S.L.w,
 (MS.mk (casM x.S.M 5 0 0 (BO.mk 7 b e).b (wU ((BO.mk 7 b e).b - 1))) (wI (x.S.st + 1)) (LS.mk 3 5 0 0 (mget x.S.M (key 5 0 0)) (casI x.S.M 5 0 0 (BO.mk 7 b e).b (wU ((BO.mk 7 b e).b - 1))) (casD x.S.M 5 0 0 (BO.mk 7 b e).b))).L.i = (b7aY x j b e).S.L.i,
 (MS.mk (casM x.S.M 5 0 0 (BO.mk 7 b e).b (wU ((BO.mk 7 b e).b - 1))) (wI (x.S.st + 1)) (LS.mk 3 5 0 0 (mget x.S.M (key 5 0 0)) (casI x.S.M 5 0 0 (BO.mk 7 b e).b (wU ((BO.mk 7 b e).b - 1))) (casD x.S.M 5 0 0 (BO.mk 7 b e).b))).L.d = (b7aY x j b e).S.L.d,
 ∀ (k : List Int), (MS.mk (casM x.S.M 5 0 0 (BO.mk 7 b e).b (wU ((BO.mk 7 b e).b - 1))) (wI (x.S.st + 1)) (LS.mk 3 5 0 0 (mget x.S.M (key 5 0 0)) (casI x.S.M 5 0 0 (BO.mk 7 b e).b (wU ((BO.mk 7 b e).b - 1))) (casD x.S.M 5 0 0 (BO.mk 7 b e).b))).M k = (b7aY x j b e).S.M k,
 (0 : Nat) = 0,
 (dCasM (xD x) 5 0 0 (BO.mk 7 b e).b (wU ((BO.mk 7 b e).b - 1))).n = (b7aY x j b e).R.D.n,
 (none : Option Nat) = none,
 wI (x.R.st + 1) = (b7aY x j b e).R.st,
 (3 : Int) = 3,
 (5 : Int) = 5,
 (0 : Int) = 0,
 (0 : Int) = 0,
 (LS.mk 3 5 0 0 (dWord (xD x) 5 0 0) (dWord (dCasM (xD x) 5 0 0 (BO.mk 7 b e).b (wU ((BO.mk 7 b e).b - 1))) 5 0 0) (dCasD (xD x) 5 0 0 (BO.mk 7 b e).b)).w = (b7aY x j b e).R.L.w,
 (LS.mk 3 5 0 0 (dWord (xD x) 5 0 0) (dWord (dCasM (xD x) 5 0 0 (BO.mk 7 b e).b (wU ((BO.mk 7 b e).b - 1))) 5 0 0) (dCasD (xD x) 5 0 0 (BO.mk 7 b e).b)).i = (b7aY x j b e).R.L.i,
 (LS.mk 3 5 0 0 (dWord (xD x) 5 0 0) (dWord (dCasM (xD x) 5 0 0 (BO.mk 7 b e).b (wU ((BO.mk 7 b e).b - 1))) 5 0 0) (dCasD (xD x) 5 0 0 (BO.mk 7 b e).b)).d = (b7aY x j b e).R.L.d,
 false = false,
 (b7aY x j b e).R.D.n ≤ (dCasM (xD x) 5 0 0 (BO.mk 7 b e).b (wU ((BO.mk 7 b e).b - 1))).n,
 wdF (b7aY x j b e).R.D.W = wdF (dCasM (xD x) 5 0 0 (BO.mk 7 b e).b (wU ((BO.mk 7 b e).b - 1))).W ∧ plainSh wSh = true ∨ ∀ (i : Nat), i < (b7aY x j b e).R.D.n → rowOb wSh 0 (wdF (dCasM (xD x) 5 0 0 (BO.mk 7 b e).b (wU ((BO.mk 7 b e).b - 1))).W i) (wdF (b7aY x j b e).R.D.W i),
 Both (MS.mk (casM x.S.M 5 0 0 (BO.mk 7 b e).b (wU ((BO.mk 7 b e).b - 1))) (wI (x.S.st + 1)) (LS.mk 3 5 0 0 (mget x.S.M (key 5 0 0)) (casI x.S.M 5 0 0 (BO.mk 7 b e).b (wU ((BO.mk 7 b e).b - 1))) (casD x.S.M 5 0 0 (BO.mk 7 b e).b))) (mkR (dCasM (xD x) 5 0 0 (BO.mk 7 b e).b (wU ((BO.mk 7 b e).b - 1))).n (wdF (dCasM (xD x) 5 0 0 (BO.mk 7 b e).b (wU ((BO.mk 7 b e).b - 1))).W) (wI (x.R.st + 1)) (LS.mk 3 5 0 0 (dWord (xD x) 5 0 0) (dWord (dCasM (xD x) 5 0 0 (BO.mk 7 b e).b (wU ((BO.mk 7 b e).b - 1))) 5 0 0) (dCasD (xD x) 5 0 0 (BO.mk 7 b e).b))),
 casD x.S.M 5 0 0 (BO.mk 7 b e).b = true,
 (0 : Int) ≤ (5 : Int),
 dCasD (xD x) 5 0 0 (BO.mk 7 b e).b = true,
 x.R.D.n ≤ x.R.D.n,
 x.R.D.n ≤ 100000,
 (0 : Int) ≤ (5 : Int),
 (0 : Int) ≤ (0 : Int),
 (0 : Int) < (4294967296 : Int),
 (0 : Int) ≤ (0 : Int),
 (0 : Int) < (4294967296 : Int),
 lrow fam0 2 (bpT m f ii x).M j (0 + ((avInt (f (0 + ii) 1)).tmod (wU (Int.ofNat x.n))).toNat) 2 = AV.ptr 901 0 0,
 lrow fam0 2 (bpT m f ii x).M j (0 + ((avInt (f (0 + ii) 1)).tmod (wU (Int.ofNat x.n))).toNat) 1 = AV.ptr 900 0 0,
 lrow fam0 2 (bpT m f ii x).M j (0 + ((avInt (f (0 + ii) 1)).tmod (wU (Int.ofNat x.n))).toNat) 0 = AV.nilp,
 (0 + ((avInt (f (0 + ii) 1)).tmod (wU (Int.ofNat x.n))).toNat).blt (bpT m f ii x).n = true,
 (((avInt (f (0 + ii) 1)).tmod (wU (Int.ofNat x.n))).toNat.blt x.n && decide (0 ≤ (avInt (f (0 + ii) 1)).tmod (wU (Int.ofNat x.n)))) = true,
 decide (wU (Int.ofNat x.n) ≠ 0) = true,
 decide (Int.ofNat x.n > 0) = true,
 ((avInt (f (0 + ii) 0)).tmod 6 == 2) = false,
 ((avInt (f (0 + ii) 0)).tmod 6 == 1) = false,
 ((avInt (f (0 + ii) 0)).tmod 6 == 0) = false,
 (0 + ii).blt m = true,
 (ii.blt m && decide (0 ≤ Int.ofNat ii)) = true,
 decide (Int.ofNat ii < Int.ofNat m) = true]) := by kernel_rfl
theorem b7b_1 (m : Nat) (f : Nat → Nat → AV) (q : Nat) (h : Nat → Nat → AV) (ii : Nat) (x : GX BO) (j : Nat) (b e : Int) : roundB Ebp 3000 bpL (h0F bpF (bpU m f q h)) [(8, Src.nm 8), (9, Src.nm 1432125560571588806088043091146838491509462512433625502740269698905336475471608626472341327076149917959354303353928698802958474702691095546400415417299), (900, Src.nm 900), (901, Src.nm 901)] (locSt bpF (bpT m f ii x) true (bpMb (BO.mk 7 b e)) j []) [Hint.b true, Hint.b false, Hint.b false, Hint.b false, Hint.node [(3, [Hint.b true]), (12, [Hint.a AV.nilp, Hint.a (AV.ptr 900 0 0), Hint.a (AV.ptr 901 0 0)]), (14, [Hint.node [], Hint.b false, Hint.node [(4, [Hint.node [], Hint.b false])]])], Hint.b false] (locSt bpF (bpT m f (ii + 1) (b7bY x j b e)) true (bpMb (BO.mk 8 b e)) j []) =
 some (Ex.norm, [(0 : Nat) = 0,
 m = m,
 (none : Option Nat) = none,
 (0 : Nat) = 0,
 (0 : Nat) = 0,
 (0 : Nat) = 0,
 x.n = (b7bY x j b e).n,
 (none : Option Nat) = none,
 wI (Int.ofNat ii + 1) = Int.ofNat (ii + 1),
 (BO.mk 7 b e).b = (BO.mk 8 b e).b,
 (BO.mk 7 b e).e = (BO.mk 8 b e).e,
 (BO.mk 7 b e).e = (BO.mk 8 b e).e,
 (BO.mk 7 b e).b = (BO.mk 8 b e).b,
 false = false,
 (bpT m f (ii + 1) (b7bY x j b e)).n ≤ (bpT m f ii x).n,
 ∀ (i : Nat), i < (bpT m f (ii + 1) (b7bY x j b e)).n → rowV (CM.mk 8 fam0 [(8, Src.nm 8), (9, Src.nm 1432125560571588806088043091146838491509462512433625502740269698905336475471608626472341327076149917959354303353928698802958474702691095546400415417299), (900, Src.nm 900), (901, Src.nm 901)]) bpF.sh 0 (lrow fam0 2 (bpT m f ii x).M j i) (lrow fam0 2 (bpT m f (ii + 1) (b7bY x j b e)).M j i),
 (0 : Nat) = 0,
 (0 : Nat) = 0,
 (0 : Nat) = 0,
 (0 : Nat) = 0,
 true = true,
 (1 : Nat) ≤ (1 : Nat),
 tabF tab = tabF tab ∧ plainSh (List.map kindOfV tab) = true ∨ ∀ (i : Nat), i < 1 → rowOb (List.map kindOfV tab) 0 (tabF tab i) (tabF tab i),
 true = true,
 m ≤ m,
 f = f ∧ plainSh asSh = true ∨ ∀ (i : Nat), i < m → rowOb asSh 0 (f i) (f i),
 (MS.mk (casM x.S.M 5 0 0 (BO.mk 7 b e).b (wU ((BO.mk 7 b e).b - 1))) (wI (x.S.st + 1)) (LS.mk 3 5 0 0 (mget x.S.M (key 5 0 0)) (casI x.S.M 5 0 0 (BO.mk 7 b e).b (wU ((BO.mk 7 b e).b - 1))) (casD x.S.M 5 0 0 (BO.mk 7 b e).b))).st = (b7bY x j b e).S.st,
 (3 : Int) = 3,
 (5 : Int) = 5,
 (0 : Int) = 0,
 (0 : Int) = 0,
 (MS.mk (casM x.S.M 5 0 0 (BO.mk 7 b e).b (wU ((BO.mk 7 b e).b - 1))) (wI (x.S.st + 1)) (LS.mk 3 5 0 0 (mget x.S.M (key 5 0 0)) (casI x.S.M 5 0 0 (BO.mk 7 b e).b (wU ((BO.mk 7 b e).b - 1))) (casD x.S.M 5 0 0 (BO.mk 7 b e).b))).L.w = (b7bY x j b e).S.L.w,
 (MS.mk (casM x.S.M 5 0 0 (BO.mk 7 b e).b (wU ((BO.mk 7 b e).b - 1))) (wI (x.S.st + 1)) (LS.mk 3 5 0 0 (mget x.S.M (key 5 0 0)) (casI x.S.M 5 0 0 (BO.mk 7 b e).b (wU ((BO.mk 7 b e).b - 1))) (casD x.S.M 5 0 0 (BO.mk 7 b e).b))).L.i = (b7bY x j b e).S.L.i,
 (MS.mk (casM x.S.M 5 0 0 (BO.mk 7 b e).b (wU ((BO.mk 7 b e).b - 1))) (wI (x.S.st + 1)) (LS.mk 3 5 0 0 (mget x.S.M (key 5 0 0)) (casI x.S.M 5 0 0 (BO.mk 7 b e).b (wU ((BO.mk 7 b e).b - 1))) (casD x.S.M 5 0 0 (BO.mk 7 b e).b))).L.d = (b7bY x j b e).S.L.d,
 ∀ (k : List Int), (MS.mk (casM x.S.M 5 0 0 (BO.mk 7 b e).b (wU ((BO.mk 7 b e).b - 1))) (wI (x.S.st + 1)) (LS.mk 3 5 0 0 (mget x.S.M (key 5 0 0)) (casI x.S.M 5 0 0 (BO.mk 7 b e).b (wU ((BO.mk 7 b e).b - 1))) (casD x.S.M 5 0 0 (BO.mk 7 b e).b))).M k = (b7bY x j b e).S.M k,
 (0 : Nat) = 0,
 (dCasM (xD x) 5 0 0 (BO.mk 7 b e).b (wU ((BO.mk 7 b e).b - 1))).n = (b7bY x j b e).R.D.n,
 (none : Option Nat) = none,
 wI (x.R.st + 1) = (b7bY x j b e).R.st,
 (3 : Int) = 3,
 (5 : Int) = 5,
 (0 : Int) = 0,
 (0 : Int) = 0,
 (LS.mk 3 5 0 0 (dWord (xD x) 5 0 0) (dWord (dCasM (xD x) 5 0 0 (BO.mk 7 b e).b (wU ((BO.mk 7 b e).b - 1))) 5 0 0) (dCasD (xD x) 5 0 0 (BO.mk 7 b e).b)).w = (b7bY x j b e).R.L.w,
 (LS.mk 3 5 0 0 (dWord (xD x) 5 0 0) (dWord (dCasM (xD x) 5 0 0 (BO.mk 7 b e).b (wU ((BO.mk 7 b e).b - 1))) 5 0 0) (dCasD (xD x) 5 0 0 (BO.mk 7 b e).b)).i = (b7bY x j b e).R.L.i,
 (LS.mk 3 5 0 0 (dWord (xD x) 5 0 0) (dWord (dCasM (xD x) 5 0 0 (BO.mk 7 b e).b (wU ((BO.mk 7 b e).b - 1))) 5 0 0) (dCasD (xD x) 5 0 0 (BO.mk 7 b e).b)).d = (b7bY x j b e).R.L.d,
 false = false,
 (b7bY x j b e).R.D.n ≤ (dCasM (xD x) 5 0 0 (BO.mk 7 b e).b (wU ((BO.mk 7 b e).b - 1))).n,
 wdF (b7bY x j b e).R.D.W = wdF (dCasM (xD x) 5 0 0 (BO.mk 7 b e).b (wU ((BO.mk 7 b e).b - 1))).W ∧ plainSh wSh = true ∨ ∀ (i : Nat), i < (b7bY x j b e).R.D.n → rowOb wSh 0 (wdF (dCasM (xD x) 5 0 0 (BO.mk 7 b e).b (wU ((BO.mk 7 b e).b - 1))).W i) (wdF (b7bY x j b e).R.D.W i),
 Both (MS.mk (casM x.S.M 5 0 0 (BO.mk 7 b e).b (wU ((BO.mk 7 b e).b - 1))) (wI (x.S.st + 1)) (LS.mk 3 5 0 0 (mget x.S.M (key 5 0 0)) (casI x.S.M 5 0 0 (BO.mk 7 b e).b (wU ((BO.mk 7 b e).b - 1))) (casD x.S.M 5 0 0 (BO.mk 7 b e).b))) (mkR (dCasM (xD x) 5 0 0 (BO.mk 7 b e).b (wU ((BO.mk 7 b e).b - 1))).n (wdF (dCasM (xD x) 5 0 0 (BO.mk 7 b e).b (wU ((BO.mk 7 b e).b - 1))).W) (wI (x.R.st + 1)) (LS.mk 3 5 0 0 (dWord (xD x) 5 0 0) (dWord (dCasM (xD x) 5 0 0 (BO.mk 7 b e).b (wU ((BO.mk 7 b e).b - 1))) 5 0 0) (dCasD (xD x) 5 0 0 (BO.mk 7 b e).b))),
 (!(BO.mk 7 b e).e == (BO.mk 7 b e).e) = false,
 casD x.S.M 5 0 0 (BO.mk 7 b e).b = false,
 (0 : Int) ≤ (5 : Int),
 dCasD (xD x) 5 0 0 (BO.mk 7 b e).b = false,
 x.R.D.n ≤ x.R.D.n,
 x.R.D.n ≤ 100000,
 (0 : Int) ≤ (5 : Int),
 (0 : Int) ≤ (0 : Int),
 (0 : Int) < (4294967296 : Int),
 (0 : Int) ≤ (0 : Int),
 (0 : Int) < (4294967296 : Int),
 lrow fam0 2 (bpT m f ii x).M j (0 + ((avInt (f (0 + ii) 1)).tmod (wU (Int.ofNat x.n))).toNat) 2 = AV.ptr 901 0 0,
 lrow fam0 2 (bpT m f ii x).M j (0 + ((avInt (f (0 + ii) 1)).tmod (wU (Int.ofNat x.n))).toNat) 1 = AV.ptr 900 0 0,
 lrow fam0 2 (bpT m f ii x).M j (0 + ((avInt (f (0 + ii) 1)).tmod (wU (Int.ofNat x.n))).toNat) 0 = AV.nilp,
 (0 + ((avInt (f (0 + ii) 1)).tmod (wU (Int.ofNat x.n))).toNat).blt (bpT m f ii x).n = true,
 (((avInt (f (0 + ii) 1)).tmod (wU (Int.ofNat x.n))).toNat.blt x.n && decide (0 ≤ (avInt (f (0 + ii) 1)).tmod (wU (Int.ofNat x.n)))) = true,
 decide (wU (Int.ofNat x.n) ≠ 0) = true,
 decide (Int.ofNat x.n > 0) = true,
 ((avInt (f (0 + ii) 0)).tmod 6 == 2) = false,
 ((avInt (f (0 + ii) 0)).tmod 6 == 1) = false,
 ((avInt (f (0 + ii) 0)).tmod 6 == 0) = false,
 (0 + ii).blt m = true,
 (ii.blt m && decide (0 ≤ Int.ofNat ii)) = true,
 decide (Int.ofNat ii < Int.ofNat m) = true]) := by kernel_rfl
theorem b8_1 (m : Nat) (f : Nat → Nat → AV) (q : Nat) (h : Nat → Nat → AV) (ii : Nat) (x : GX BO) (j : Nat) (b e : Int) : roundB Ebp 3000 bpL (h0F bpF (bpU m f q h)) [(8, Src.nm 8), (9, Src.nm 1432108390954562068130770492362074629094780895143840845398939973542058535927045117761430665392583068753512924305807531066532549738824859460831230821342), (900, Src.nm 900), (901, Src.nm 901)] (locSt bpF (bpT m f ii x) true (bpMb (BO.mk 8 b e)) j []) [Hint.b true, Hint.b false, Hint.b false, Hint.b false, Hint.node [(3, [Hint.b true]), (12, [Hint.a AV.nilp, Hint.a (AV.ptr 900 0 0), Hint.a (AV.ptr 901 0 0)]), (14, [])], Hint.b false] (locSt bpF (bpT m f (ii + 1) (b8Y x j b e)) true (bpMb (BO.mk 4 b 7)) j []) =
 some (Ex.norm, [(0 : Nat) = 0,
 m = m,
 (none : Option Nat) = none,
 (0 : Nat) = 0,
 (0 : Nat) = 0,
 (0 : Nat) = 0,
 x.n = (gPut x (mCas x.S 7 (wI (wU (b - 1))) 0 4294967296 0) (rCas x.R 7 (wI (wI b - 1)) 0 4294967296 0) j (BO.mk 4 b 7)).n,
 (none : Option Nat) = none,
 wI (Int.ofNat ii + 1) = Int.ofNat (ii + 1),
 (BO.mk 8 b e).b = (BO.mk 4 b 7).b,
 (7 : Int) = 7,
 (7 : Int) = 7,
 (BO.mk 8 b e).b = (BO.mk 4 b 7).b,
 false = false,
 (bpT m f (ii + 1) (gPut x (mCas x.S 7 (wI (wU (b - 1))) 0 4294967296 0) (rCas x.R 7 (wI (wI b - 1)) 0 4294967296 0) j (BO.mk 4 b 7))).n ≤ (bpT m f ii x).n,
 ∀ (i : Nat), i < (bpT m f (ii + 1) (gPut x (mCas x.S 7 (wI (wU (b - 1))) 0 4294967296 0) (rCas x.R 7 (wI (wI b - 1)) 0 4294967296 0) j (BO.mk 4 b 7))).n → rowV (CM.mk 8 fam0 [(8, Src.nm 8), (9, Src.nm 1432108390954562068130770492362074629094780895143840845398939973542058535927045117761430665392583068753512924305807531066532549738824859460831230821342), (900, Src.nm 900), (901, Src.nm 901)]) bpF.sh 0 (lrow fam0 2 (bpT m f ii x).M j i) (lrow fam0 2 (bpT m f (ii + 1) (gPut x (mCas x.S 7 (wI (wU (b - 1))) 0 4294967296 0) (rCas x.R 7 (wI (wI b - 1)) 0 4294967296 0) j (BO.mk 4 b 7))).M j i),
 (0 : Nat) = 0,
 (0 : Nat) = 0,
 (0 : Nat) = 0,
 (0 : Nat) = 0,
 true = true,
 (1 : Nat) ≤ (1 : Nat),
 tabF tab = tabF tab ∧ plainSh (List.map kindOfV tab) = true ∨ ∀ (i : Nat), i < 1 → rowOb (List.map kindOfV tab) 0 (tabF tab i) (tabF tab i),
 true = true,
 m ≤ m,
 f = f ∧ plainSh asSh = true ∨ ∀ (i : Nat), i < m → rowOb asSh 0 (f i) (f i),
 (MS.mk (casM x.S.M 7 (wI (wU ((BO.mk 8 b e).b - 1))) 0 4294967296 0) (wI (x.S.st + 1)) (LS.mk 3 7 (wI (wU ((BO.mk 8 b e).b - 1))) 0 (mget x.S.M (key 7 (wI (wU ((BO.mk 8 b e).b - 1))) 0)) (casI x.S.M 7 (wI (wU ((BO.mk 8 b e).b - 1))) 0 4294967296 0) (casD x.S.M 7 (wI (wU ((BO.mk 8 b e).b - 1))) 0 4294967296))).st = (gPut x (mCas x.S 7 (wI (wU (b - 1))) 0 4294967296 0) (rCas x.R 7 (wI (wI b - 1)) 0 4294967296 0) j (BO.mk 4 b 7)).S.st,
 (3 : Int) = 3,
 (7 : Int) = 7,
 (MS.mk (casM x.S.M 7 (wI (wU ((BO.mk 8 b e).b - 1))) 0 4294967296 0) (wI (x.S.st + 1)) (LS.mk 3 7 (wI (wU ((BO.mk 8 b e).b - 1))) 0 (mget x.S.M (key 7 (wI (wU ((BO.mk 8 b e).b - 1))) 0)) (casI x.S.M 7 (wI (wU ((BO.mk 8 b e).b - 1))) 0 4294967296 0) (casD x.S.M 7 (wI (wU ((BO.mk 8 b e).b - 1))) 0 4294967296))).L.a = (gPut x (mCas x.S 7 (wI (wU (b - 1))) 0 4294967296 0) (rCas x.R 7 (wI (wI b - 1)) 0 4294967296 0) j (BO.mk 4 b 7)).S.L.a,
 (0 : Int) = 0,
 (MS.mk (casM x.S.M 7 (wI (wU ((BO.mk 8 b e).b - 1))) 0 4294967296 0) (wI (x.S.st + 1)) (LS.mk 3 7 (wI (wU ((BO.mk 8 b e).b - 1))) 0 (mget x.S.M (key 7 (wI (wU ((BO.mk 8 b e).b - 1))) 0)) (casI x.S.M 7 (wI (wU ((BO.mk 8 b e).b - 1))) 0 4294967296 0) (casD x.S.M 7 (wI (wU ((BO.mk 8 b e).b - 1))) 0 4294967296))).L.w = (gPut x (mCas x.S 7 (wI (wU (b - 1))) 0 4294967296 0) (rCas x.R 7 (wI (wI b - 1)) 0 4294967296 0) j (BO.mk 4 b 7)).S.L.w,
 (MS.mk (casM x.S.M 7 (wI (wU ((BO.mk 8 b e).b - 1))) 0 4294967296 0) (wI (x.S.st + 1)) (LS.mk 3 7 (wI (wU ((BO.mk 8 b e).b - 1))) 0 (mget x.S.M (key 7 (wI (wU ((BO.mk 8 b e).b - 1))) 0)) (casI x.S.M 7 (wI (wU ((BO.mk 8 b e).b - 1))) 0 4294967296 0) (casD x.S.M 7 (wI (wU ((BO.mk 8 b e).b - 1))) 0 4294967296))).L.i = (gPut x (mCas x.S 7 (wI (wU (b - 1))) 0 4294967296 0) (rCas x.R 7 (wI (wI b - 1)) 0 4294967296 0) j (BO.mk 4 b 7)).S.L.i,
 (MS.mk (casM x.S.M 7 (wI (wU ((BO.mk 8 b e).b - 1))) 0 4294967296 0) (wI (x.S.st + 1)) (LS.mk 3 7 (wI (wU ((BO.mk 8 b e).b - 1))) 0 (mget x.S.M (key 7 (wI (wU ((BO.mk 8 b e).b - 1))) 0)) (casI x.S.M 7 (wI (wU ((BO.mk 8 b e).b - 1))) 0 4294967296 0) (casD x.S.M 7 (wI (wU ((BO.mk 8 b e).b - 1))) 0 4294967296))).L.d = (gPut x (mCas x.S 7 (wI (wU (b - 1))) 0 4294967296 0) (rCas x.R 7 (wI (wI b - 1)) 0 4294967296 0) j (BO.mk 4 b 7)).S.L.d,
 ∀ (k : List Int), (MS.mk (casM x.S.M 7 (wI (wU ((BO.mk 8 b e).b - 1))) 0 4294967296 0) (wI (x.S.st + 1)) (LS.mk 3 7 (wI (wU ((BO.mk 8 b e).b - 1))) 0 (mget x.S.M (key 7 (wI (wU ((BO.mk 8 b e).b - 1))) 0)) (casI x.S.M 7 (wI (wU ((BO.mk 8 b e).b - 1))) 0 4294967296 0) (casD x.S.M 7 (wI (wU ((BO.mk 8 b e).b - 1))) 0 4294967296))).M k = (gPut x (mCas x.S 7 (wI (wU (b - 1))) 0 4294967296 0) (rCas x.R 7 (wI (wI b - 1)) 0 4294967296 0) j (BO.mk 4 b 7)).S.M k,
 (0 : Nat) = 0,
 (dCasM (xD x) 7 (wI (wI (BO.mk 8 b e).b - 1)) 0 4294967296 0).n = (gPut x (mCas x.S 7 (wI (wU (b - 1))) 0 4294967296 0) (rCas x.R 7 (wI (wI b - 1)) 0 4294967296 0) j (BO.mk 4 b 7)).R.D.n,
 (none : Option Nat) = none,
 wI (x.R.st + 1) = (gPut x (mCas x.S 7 (wI (wU (b - 1))) 0 4294967296 0) (rCas x.R 7 (wI (wI b - 1)) 0 4294967296 0) j (BO.mk 4 b 7)).R.st,
 (3 : Int) = 3,
 (7 : Int) = 7,
 (LS.mk 3 7 (wI (wI (BO.mk 8 b e).b - 1)) 0 (dWord (xD x) 7 (wI (wI (BO.mk 8 b e).b - 1)) 0) (dWord (dCasM (xD x) 7 (wI (wI (BO.mk 8 b e).b - 1)) 0 4294967296 0) 7 (wI (wI (BO.mk 8 b e).b - 1)) 0) (dCasD (xD x) 7 (wI (wI (BO.mk 8 b e).b - 1)) 0 4294967296)).a = (gPut x (mCas x.S 7 (wI (wU (b - 1))) 0 4294967296 0) (rCas x.R 7 (wI (wI b - 1)) 0 4294967296 0) j (BO.mk 4 b 7)).R.L.a,
 (0 : Int) = 0,
 (LS.mk 3 7 (wI (wI (BO.mk 8 b e).b - 1)) 0 (dWord (xD x) 7 (wI (wI (BO.mk 8 b e).b - 1)) 0) (dWord (dCasM (xD x) 7 (wI (wI (BO.mk 8 b e).b - 1)) 0 4294967296 0) 7 (wI (wI (BO.mk 8 b e).b - 1)) 0) (dCasD (xD x) 7 (wI (wI (BO.mk 8 b e).b - 1)) 0 4294967296)).w = (gPut x (mCas x.S 7 (wI (wU (b - 1))) 0 4294967296 0) (rCas x.R 7 (wI (wI b - 1)) 0 4294967296 0) j (BO.mk 4 b 7)).R.L.w,
 (LS.mk 3 7 (wI (wI (BO.mk 8 b e).b - 1)) 0 (dWord (xD x) 7 (wI (wI (BO.mk 8 b e).b - 1)) 0) (dWord (dCasM (xD x) 7 (wI (wI (BO.mk 8 b e).b - 1)) 0 4294967296 0) 7 (wI (wI (BO.mk 8 b e).b - 1)) 0) (dCasD (xD x) 7 (wI (wI (BO.mk 8 b e).b - 1)) 0 4294967296)).i = (gPut x (mCas x.S 7 (wI (wU (b - 1))) 0 4294967296 0) (rCas x.R 7 (wI (wI b - 1)) 0 4294967296 0) j (BO.mk 4 b 7)).R.L.i,
 (LS.mk 3 7 (wI (wI (BO.mk 8 b e).b - 1)) 0 (dWord (xD x) 7 (wI (wI (BO.mk 8 b e).b - 1)) 0) (dWord (dCasM (xD x) 7 (wI (wI (BO.mk 8 b e).b - 1)) 0 4294967296 0) 7 (wI (wI (BO.mk 8 b e).b - 1)) 0) (dCasD (xD x) 7 (wI (wI (BO.mk 8 b e).b - 1)) 0 4294967296)).d = (gPut x (mCas x.S 7 (wI (wU (b - 1))) 0 4294967296 0) (rCas x.R 7 (wI (wI b - 1)) 0 4294967296 0) j (BO.mk 4 b 7)).R.L.d,
 false = false,
 (gPut x (mCas x.S 7 (wI (wU (b - 1))) 0 4294967296 0) (rCas x.R 7 (wI (wI b - 1)) 0 4294967296 0) j (BO.mk 4 b 7)).R.D.n ≤ (dCasM (xD x) 7 (wI (wI (BO.mk 8 b e).b - 1)) 0 4294967296 0).n,
 wdF (gPut x (mCas x.S 7 (wI (wU (b - 1))) 0 4294967296 0) (rCas x.R 7 (wI (wI b - 1)) 0 4294967296 0) j (BO.mk 4 b 7)).R.D.W = wdF (dCasM (xD x) 7 (wI (wI (BO.mk 8 b e).b - 1)) 0 4294967296 0).W ∧ plainSh wSh = true ∨ ∀ (i : Nat), i < (gPut x (mCas x.S 7 (wI (wU (b - 1))) 0 4294967296 0) (rCas x.R 7 (wI (wI b - 1)) 0 4294967296 0) j (BO.mk 4 b 7)).R.D.n → rowOb wSh 0 (wdF (dCasM (xD x) 7 (wI (wI (BO.mk 8 b e).b - 1)) 0 4294967296 0).W i) (wdF (gPut x (mCas x.S 7 (wI (wU (b - 1))) 0 4294967296 0) (rCas x.R 7 (wI (wI b - 1)) 0 4294967296 0) j (BO.mk 4 b 7)).R.D.W i),
 Both (MS.mk (casM x.S.M 7 (wI (wU ((BO.mk 8 b e).b - 1))) 0 4294967296 0) (wI (x.S.st + 1)) (LS.mk 3 7 (wI (wU ((BO.mk 8 b e).b - 1))) 0 (mget x.S.M (key 7 (wI (wU ((BO.mk 8 b e).b - 1))) 0)) (casI x.S.M 7 (wI (wU ((BO.mk 8 b e).b - 1))) 0 4294967296 0) (casD x.S.M 7 (wI (wU ((BO.mk 8 b e).b - 1))) 0 4294967296))) (mkR (dCasM (xD x) 7 (wI (wI (BO.mk 8 b e).b - 1)) 0 4294967296 0).n (wdF (dCasM (xD x) 7 (wI (wI (BO.mk 8 b e).b - 1)) 0 4294967296 0).W) (wI (x.R.st + 1)) (LS.mk 3 7 (wI (wI (BO.mk 8 b e).b - 1)) 0 (dWord (xD x) 7 (wI (wI (BO.mk 8 b e).b - 1)) 0) (dWord (dCasM (xD x) 7 (wI (wI (BO.mk 8 b e).b - 1)) 0 4294967296 0) 7 (wI (wI (BO.mk 8 b e).b - 1)) 0) (dCasD (xD x) 7 (wI (wI (BO.mk 8 b e).b - 1)) 0 4294967296))),
 (0 : Int) ≤ (7 : Int),
 TabIs tab (tabF tab),
 (0 : Int) ≤ (0 : Int),
 (0 : Int) < (4294967296 : Int),
 TabIs tab (tabF tab),
 (0 : Int) ≤ (0 : Int),
 (0 : Int) < (4294967296 : Int),
 x.R.D.n ≤ x.R.D.n,
 x.R.D.n ≤ 100000,
 (0 : Int) ≤ (7 : Int),
 (0 : Int) ≤ (0 : Int),
 (0 : Int) < (4294967296 : Int),
 (0 : Int) ≤ (0 : Int),
 (0 : Int) < (4294967296 : Int),
 lrow fam0 2 (bpT m f ii x).M j (0 + ((avInt (f (0 + ii) 1)).tmod (wU (Int.ofNat x.n))).toNat) 2 = AV.ptr 901 0 0,
 lrow fam0 2 (bpT m f ii x).M j (0 + ((avInt (f (0 + ii) 1)).tmod (wU (Int.ofNat x.n))).toNat) 1 = AV.ptr 900 0 0,
 lrow fam0 2 (bpT m f ii x).M j (0 + ((avInt (f (0 + ii) 1)).tmod (wU (Int.ofNat x.n))).toNat) 0 = AV.nilp,
 (0 + ((avInt (f (0 + ii) 1)).tmod (wU (Int.ofNat x.n))).toNat).blt (bpT m f ii x).n = true,
 (((avInt (f (0 + ii) 1)).tmod (wU (Int.ofNat x.n))).toNat.blt x.n && decide (0 ≤ (avInt (f (0 + ii) 1)).tmod (wU (Int.ofNat x.n)))) = true,
 decide (wU (Int.ofNat x.n) ≠ 0) = true,
 decide (Int.ofNat x.n > 0) = true,
 ((avInt (f (0 + ii) 0)).tmod 6 == 2) = false,
 ((avInt (f (0 + ii) 0)).tmod 6 == 1) = false,
 ((avInt (f (0 + ii) 0)).tmod 6 == 0) = false,
 (0 + ii).blt m = true,
 (ii.blt m && decide (0 ≤ Int.ofNat ii)) = true,
 decide (Int.ofNat ii < Int.ofNat m) = true]) := by kernel_rfl
theorem bpe_1 (m : Nat) (f : Nat → Nat → AV) (q : Nat) (h : Nat → Nat → AV) (ii : Nat) (x : GX BO) : roundB Ebp 3000 bpL ((bpU m f q h).hp) [(9, Src.nm 9)] (locSt bpF (bpT m f ii x) false (bpMb (x.O x.n)) x.n []) [Hint.b false] (bpX m f x.S x.R) =
 some (Ex.exit 0, [(0 : Nat) = 0,
 m = m,
 (none : Option Nat) = none,
 (0 : Nat) = 0,
 (0 : Nat) = 0,
 (0 : Nat) = 0,
 (0 : Nat) = 0,
 (0 : Nat) = 0,
 (0 : Nat) = 0,
 true = true,
 (1 : Nat) ≤ (1 : Nat),
 tabF tab = tabF tab ∧ plainSh (List.map kindOfV tab) = true ∨ ∀ (i : Nat), i < 1 → rowOb (List.map kindOfV tab) 0 (tabF tab i) (tabF tab i),
 true = true,
 m ≤ m,
 f = f ∧ plainSh asSh = true ∨ ∀ (i : Nat), i < m → rowOb asSh 0 (f i) (f i),
 x.S.st = x.S.st,
 x.S.L.c = x.S.L.c,
 x.S.L.k = x.S.L.k,
 x.S.L.a = x.S.L.a,
 x.S.L.f = x.S.L.f,
 x.S.L.w = x.S.L.w,
 x.S.L.i = x.S.L.i,
 x.S.L.d = x.S.L.d,
 ∀ (k : List Int), x.S.M k = x.S.M k,
 (0 : Nat) = 0,
 x.R.D.n = x.R.D.n,
 (none : Option Nat) = none,
 x.R.st = x.R.st,
 x.R.L.c = x.R.L.c,
 x.R.L.k = x.R.L.k,
 x.R.L.a = x.R.L.a,
 x.R.L.f = x.R.L.f,
 x.R.L.w = x.R.L.w,
 x.R.L.i = x.R.L.i,
 x.R.L.d = x.R.L.d,
 false = false,
 x.R.D.n ≤ x.R.D.n,
 wdF x.R.D.W = wdF x.R.D.W ∧ plainSh wSh = true ∨ ∀ (i : Nat), i < x.R.D.n → rowOb wSh 0 (wdF x.R.D.W i) (wdF x.R.D.W i),
 decide (Int.ofNat ii < Int.ofNat m) = false]) := by kernel_rfl
theorem bpi_1 (m : Nat) (f : Nat → Nat → AV) (q : Nat) (h : Nat → Nat → AV) : castSt (h0F bpF (bpU m f q h)) [(8, Src.nil 3), (9, Src.nm 6)] (bpU m f q h) (locSt bpF (bpT m f 0 (bpN f h q 0)) false (Mb.mk [] []) 0 []) =
 some ([(0 : Nat) = 0,
 m = m,
 (none : Option Nat) = none,
 (0 : Nat) = 0,
 (0 : Nat) = 0,
 (0 : Nat) = 0,
 (0 : Nat) = 0,
 (none : Option Nat) = none,
 (0 : Int) = 0,
 (0 : Nat) = 0,
 (0 : Nat) = 0,
 (0 : Nat) = 0,
 (0 : Nat) = 0,
 (0 : Nat) = 0,
 true = true,
 (1 : Nat) ≤ (1 : Nat),
 tabF tab = tabF tab ∧ plainSh (List.map kindOfV tab) = true ∨ ∀ (i : Nat), i < 1 → rowOb (List.map kindOfV tab) 0 (tabF tab i) (tabF tab i),
 true = true,
 m ≤ m,
 f = f ∧ plainSh asSh = true ∨ ∀ (i : Nat), i < m → rowOb asSh 0 (f i) (f i),
 (msN (bgW h) q).st = (bpN f h q 0).S.st,
 (msN (bgW h) q).L.c = (bpN f h q 0).S.L.c,
 (msN (bgW h) q).L.k = (bpN f h q 0).S.L.k,
 (msN (bgW h) q).L.a = (bpN f h q 0).S.L.a,
 (msN (bgW h) q).L.f = (bpN f h q 0).S.L.f,
 (msN (bgW h) q).L.w = (bpN f h q 0).S.L.w,
 (msN (bgW h) q).L.i = (bpN f h q 0).S.L.i,
 (msN (bgW h) q).L.d = (bpN f h q 0).S.L.d,
 ∀ (k : List Int), (msN (bgW h) q).M k = (bpN f h q 0).S.M k,
 (0 : Nat) = 0,
 (rsN (bgW h) q).D.n = (bpN f h q 0).R.D.n,
 (none : Option Nat) = none,
 (rsN (bgW h) q).st = (bpN f h q 0).R.st,
 (rsN (bgW h) q).L.c = (bpN f h q 0).R.L.c,
 (rsN (bgW h) q).L.k = (bpN f h q 0).R.L.k,
 (rsN (bgW h) q).L.a = (bpN f h q 0).R.L.a,
 (rsN (bgW h) q).L.f = (bpN f h q 0).R.L.f,
 (rsN (bgW h) q).L.w = (bpN f h q 0).R.L.w,
 (rsN (bgW h) q).L.i = (bpN f h q 0).R.L.i,
 (rsN (bgW h) q).L.d = (bpN f h q 0).R.L.d,
 false = false,
 (bpN f h q 0).R.D.n ≤ (rsN (bgW h) q).D.n,
 wdF (bpN f h q 0).R.D.W = wdF (rsN (bgW h) q).D.W ∧ plainSh wSh = true ∨ ∀ (i : Nat), i < (bpN f h q 0).R.D.n → rowOb wSh 0 (wdF (rsN (bgW h) q).D.W i) (wdF (bpN f h q 0).R.D.W i)]) := by kernel_rfl
set_option maxHeartbeats 4000000 in
theorem bp_lp (m : Nat) (f : Nat → Nat → AV) (q : Nat) (h : Nat → Nat → AV) (hm : m ≤ 300) (hq : q ≤ 300) (hr : ∀ i, i < m → 0 ≤ avInt (f i 2) ∧ (0 ≤ avInt (f i 5) ∧ avInt (f i 5) < 18446744073709551616) ∧ 0 ≤ avInt (f i 1)) (hh0 : ∀ i, i < q → 0 ≤ avInt (h i 3) ∧ avInt (h i 3) < 18446744073709551616) : bpLP m f q h := by
  have hU : U64 (msN (bgW h) q) := msN_u q hh0
  refine fam_rule Ebp_ok bpFam ⟨by show 8 ≤ 900; omega, rfl, fun n o hg => ltAll_get _ rfl n o hg⟩ (fun z : Nat × GX BO => bpT m f z.1 z.2) (fun z => m - z.1) (fun z => z.1 ≤ m ∧ z.2 = bpN f h q z.1) (fun z hz => ?_) ?_ (fun z hz => ?_)
  · obtain ⟨ii, x⟩ := z
    obtain ⟨h1, h2⟩ := hz
    have h1 : ii ≤ m := h1
    have h2 : x = bpN f h q ii := h2
    have := (bpN_ok (f := f) (h := h) hU ii (fun k hk => (hr k (by omega)).2.1)).n
    rw [← h2] at this
    exact bpOk (x := x) (by omega)
  ·
    refine ⟨(0, bpN f h q 0), [(8, Src.nil 3), (9, Src.nm 6)], _, ⟨Nat.zero_le _, rfl⟩, (fun k hk => absurd hk (Nat.not_lt_zero k)), bpi_1 .., (ob_cons rfl (ob_cons rfl (ob_cons rfl (ob_cons rfl (ob_cons rfl (ob_cons rfl (ob_cons rfl (ob_cons rfl (ob_cons rfl (ob_cons rfl (ob_cons rfl (ob_cons rfl (ob_cons rfl (ob_cons rfl (ob_cons rfl (ob_cons (Nat.le_refl _) (ob_cons (.inl ⟨rfl, rfl⟩) (ob_cons rfl (ob_cons (Nat.le_refl _) (ob_cons (.inl ⟨rfl, rfl⟩) (ob_cons ?_ (ob_cons ?_ (ob_cons ?_ (ob_cons ?_ (ob_cons ?_ (ob_cons ?_ (ob_cons ?_ (ob_cons ?_ (ob_cons ?_ (ob_cons rfl (ob_cons ?_ (ob_cons rfl (ob_cons ?_ (ob_cons ?_ (ob_cons ?_ (ob_cons ?_ (ob_cons ?_ (ob_cons ?_ (ob_cons ?_ (ob_cons ?_ (ob_cons rfl (ob_cons ?_ (ob_cons ?_ ob_nil)))))))))))))))))))))))))))))))))))))))))))⟩
    · exact rfl
    · exact rfl
    · exact rfl
    · exact rfl
    · exact rfl
    · exact rfl
    · exact rfl
    · exact rfl
    · exact fun _ => rfl
    · exact rfl
    · exact rfl
    · exact rfl
    · exact rfl
    · exact rfl
    · exact rfl
    · exact rfl
    · exact rfl
    · exact rfl
    · exact Nat.le_refl _
    · exact .inl ⟨rfl, rfl⟩
  · obtain ⟨ii, x⟩ := z
    obtain ⟨hi, hx⟩ := hz
    have hi : ii ≤ m := hi
    have hx : x = bpN f h q ii := hx
    have hE := bpN_ok (f := f) (h := h) hU ii (fun k hk => (hr k (by omega)).2.1)
    rw [← hx] at hE
    by_cases hin : ii < m
    · have hnum := hE.f.fine.num
      have hn := hE.n
      have hb := hE.f.fine.both
      have hu : ∀ k, 0 ≤ mget x.S.M k ∧ mget x.S.M k < 18446744073709551616 := hE.f.u
      have hri := hr ii hin
      have hnble : (0 + x.n).ble (bpT m f ii x).n = true := by rw [Nat.zero_add]; exact Nat.ble_eq_true_of_le (Nat.le_refl x.n)
      have hwi : IntKind.i64.wrap (Int.ofNat ii + 1) = Int.ofNat (ii + 1) := wrap_nat64 _ (by simp; omega) (by simp; omega)
      have hnx : ∀ y, y = bpStep (f (0 + ii)) x → (fun z : Nat × GX BO => z.1 ≤ m ∧ z.2 = bpN f h q z.1) (ii + 1, y) := fun y e => ⟨by show ii + 1 ≤ m; omega, by show y = bpStep (f ii) (bpN f h q ii); rw [e, hx, Nat.zero_add]⟩
      have hk2 : 0 ≤ avInt (f (0 + ii) 2) := by rw [Nat.zero_add]; exact hri.1
      by_cases hk0 : (avInt (f (0 + ii) 0)).tmod 6 = 0
      · have hok := hnx (gAdd x (BO.mk 1 0 0)) (by unfold bpStep; rw [if_pos hk0])
        have hcl : ((bpT m f (ii + 1) (gAdd x (BO.mk 1 0 0))).M x.n).cells = (bpMb (BO.mk 1 0 0)).cells := by show (bpMb (if x.n = x.n then _ else x.O x.n)).cells = _; rw [if_pos rfl]
        have hne : ∀ i, i ≠ x.n → (bpT m f (ii + 1) (gAdd x (BO.mk 1 0 0))).M i = (bpT m f ii x).M i := fun i hi => by show bpMb (if i = x.n then _ else x.O i) = _; rw [if_neg hi]; rfl
        refine fam_norm (F := bpF) (s0 := bpU m f q h) (X := Nat × GX BO) (T := fun z => bpT m f z.1 z.2) (x := (ii, x)) (ii + 1, gAdd x (BO.mk 1 0 0)) x.n false true (ba0_1 ..) (ob_cons rfl (ob_cons rfl (ob_cons rfl (ob_cons rfl (ob_cons rfl (ob_cons rfl (ob_cons ?_ (ob_cons rfl (ob_cons ?_ (ob_cons rfl (ob_cons rfl (ob_cons rfl (ob_cons rfl (ob_cons rfl (ob_cons ?_ (ob_cons ?_ (ob_cons rfl (ob_cons rfl (ob_cons rfl (ob_cons rfl (ob_cons rfl (ob_cons (Nat.le_refl _) (ob_cons (.inl ⟨rfl, rfl⟩) (ob_cons rfl (ob_cons (Nat.le_refl _) (ob_cons (.inl ⟨rfl, rfl⟩) (ob_cons ?_ (ob_cons ?_ (ob_cons ?_ (ob_cons ?_ (ob_cons ?_ (ob_cons ?_ (ob_cons ?_ (ob_cons ?_ (ob_cons ?_ (ob_cons rfl (ob_cons ?_ (ob_cons rfl (ob_cons ?_ (ob_cons ?_ (ob_cons ?_ (ob_cons ?_ (ob_cons ?_ (ob_cons ?_ (ob_cons ?_ (ob_cons ?_ (ob_cons rfl (ob_cons ?_ (ob_cons ?_ (ob_cons ?_ (ob_cons ?_ (ob_cons ?_ (ob_cons ?_ (ob_cons ?_ (ob_cons ?_ (ob_cons ?_ ob_nil)))))))))))))))))))))))))))))))))))))))))))))))))))))))) (fun h => by cases h) rfl hok (by show m - (ii + 1) < m - ii; omega) (by show bpMb (if x.n = x.n then _ else _) = _; rw [if_pos rfl]) (.inl ⟨rfl, Nat.lt_succ_self _⟩) (fun i hi hne => ⟨(by have hi : i < x.n + 1 := hi; show i < x.n; omega), (by show bpMb (if i = x.n then _ else _) = bpMb _; rw [if_neg hne])⟩)
        · exact rfl
        · assumption
        · exact Nat.le_refl _
        · exact fg_add (F := bpF) rfl rfl (fun i => bpMb_f _) rfl (M := (bpT m f ii x).M) (bpMb_f _) hcl rfl hne
        · exact rfl
        · exact rfl
        · exact rfl
        · exact rfl
        · exact rfl
        · exact rfl
        · exact rfl
        · exact rfl
        · exact fun _ => rfl
        · exact rfl
        · exact rfl
        · exact rfl
        · exact rfl
        · exact rfl
        · exact rfl
        · exact rfl
        · exact rfl
        · exact rfl
        · exact Nat.le_refl _
        · exact .inl ⟨rfl, rfl⟩
        · assumption
        · (simp [Nat.blt_eq]; omega)
        · assumption
        · assumption
        · (simp [Nat.blt_eq]; omega)
        · (simp [Nat.blt_eq]; omega)
        · (simp [Nat.blt_eq]; omega)
      by_cases hk1 : (avInt (f (0 + ii) 0)).tmod 6 = 1
      · have hok := hnx (gAdd x (BO.mk 5 0 0)) (by unfold bpStep; rw [if_neg hk0, if_pos hk1])
        have hcl : ((bpT m f (ii + 1) (gAdd x (BO.mk 5 0 0))).M x.n).cells = (bpMb (BO.mk 5 0 0)).cells := by show (bpMb (if x.n = x.n then _ else x.O x.n)).cells = _; rw [if_pos rfl]
        have hne : ∀ i, i ≠ x.n → (bpT m f (ii + 1) (gAdd x (BO.mk 5 0 0))).M i = (bpT m f ii x).M i := fun i hi => by show bpMb (if i = x.n then _ else x.O i) = _; rw [if_neg hi]; rfl
        refine fam_norm (F := bpF) (s0 := bpU m f q h) (X := Nat × GX BO) (T := fun z => bpT m f z.1 z.2) (x := (ii, x)) (ii + 1, gAdd x (BO.mk 5 0 0)) x.n false true (ba1_1 ..) (ob_cons rfl (ob_cons rfl (ob_cons rfl (ob_cons rfl (ob_cons rfl (ob_cons rfl (ob_cons ?_ (ob_cons rfl (ob_cons ?_ (ob_cons rfl (ob_cons rfl (ob_cons rfl (ob_cons rfl (ob_cons rfl (ob_cons ?_ (ob_cons ?_ (ob_cons rfl (ob_cons rfl (ob_cons rfl (ob_cons rfl (ob_cons rfl (ob_cons (Nat.le_refl _) (ob_cons (.inl ⟨rfl, rfl⟩) (ob_cons rfl (ob_cons (Nat.le_refl _) (ob_cons (.inl ⟨rfl, rfl⟩) (ob_cons ?_ (ob_cons ?_ (ob_cons ?_ (ob_cons ?_ (ob_cons ?_ (ob_cons ?_ (ob_cons ?_ (ob_cons ?_ (ob_cons ?_ (ob_cons rfl (ob_cons ?_ (ob_cons rfl (ob_cons ?_ (ob_cons ?_ (ob_cons ?_ (ob_cons ?_ (ob_cons ?_ (ob_cons ?_ (ob_cons ?_ (ob_cons ?_ (ob_cons rfl (ob_cons ?_ (ob_cons ?_ (ob_cons ?_ (ob_cons ?_ (ob_cons ?_ (ob_cons ?_ (ob_cons ?_ (ob_cons ?_ (ob_cons ?_ ob_nil)))))))))))))))))))))))))))))))))))))))))))))))))))))))) (fun h => by cases h) rfl hok (by show m - (ii + 1) < m - ii; omega) (by show bpMb (if x.n = x.n then _ else _) = _; rw [if_pos rfl]) (.inl ⟨rfl, Nat.lt_succ_self _⟩) (fun i hi hne => ⟨(by have hi : i < x.n + 1 := hi; show i < x.n; omega), (by show bpMb (if i = x.n then _ else _) = bpMb _; rw [if_neg hne])⟩)
        · exact rfl
        · assumption
        · exact Nat.le_refl _
        · exact fg_add (F := bpF) rfl rfl (fun i => bpMb_f _) rfl (M := (bpT m f ii x).M) (bpMb_f _) hcl rfl hne
        · exact rfl
        · exact rfl
        · exact rfl
        · exact rfl
        · exact rfl
        · exact rfl
        · exact rfl
        · exact rfl
        · exact fun _ => rfl
        · exact rfl
        · exact rfl
        · exact rfl
        · exact rfl
        · exact rfl
        · exact rfl
        · exact rfl
        · exact rfl
        · exact rfl
        · exact Nat.le_refl _
        · exact .inl ⟨rfl, rfl⟩
        · assumption
        · (simp [Nat.blt_eq]; omega)
        · assumption
        · assumption
        · (simp [Nat.blt_eq]; omega)
        · (simp [Nat.blt_eq]; omega)
        · (simp [Nat.blt_eq]; omega)
      by_cases hk2n : (avInt (f (0 + ii) 0)).tmod 6 = 2
      · have hok := hnx (gSto x (avInt (f (0 + ii) 2)) (avInt (f (0 + ii) 3)) (avInt (f (0 + ii) 4)) (avInt (f (0 + ii) 5))) (by unfold bpStep; rw [if_neg hk0, if_neg hk1, if_pos hk2n])
        have hbS := hb.store (avInt (f (0 + ii) 2)) (avInt (f (0 + ii) 3)) (avInt (f (0 + ii) 4)) (avInt (f (0 + ii) 5))
        refine fam_norm (F := bpF) (s0 := bpU m f q h) (X := Nat × GX BO) (T := fun z => bpT m f z.1 z.2) (x := (ii, x)) (ii + 1, (gSto x (avInt (f (0 + ii) 2)) (avInt (f (0 + ii) 3)) (avInt (f (0 + ii) 4)) (avInt (f (0 + ii) 5)))) x.n false false (bs0_1 ..) (ob_cons rfl (ob_cons rfl (ob_cons rfl (ob_cons rfl (ob_cons rfl (ob_cons rfl (ob_cons ?_ (ob_cons rfl (ob_cons ?_ (ob_cons rfl (ob_cons ?_ (ob_cons ?_ (ob_cons rfl (ob_cons rfl (ob_cons rfl (ob_cons rfl (ob_cons rfl (ob_cons (Nat.le_refl _) (ob_cons (.inl ⟨rfl, rfl⟩) (ob_cons rfl (ob_cons (Nat.le_refl _) (ob_cons (.inl ⟨rfl, rfl⟩) (ob_cons ?_ (ob_cons rfl (ob_cons ?_ (ob_cons ?_ (ob_cons ?_ (ob_cons ?_ (ob_cons ?_ (ob_cons ?_ (ob_cons ?_ (ob_cons rfl (ob_cons ?_ (ob_cons rfl (ob_cons ?_ (ob_cons rfl (ob_cons ?_ (ob_cons ?_ (ob_cons ?_ (ob_cons ?_ (ob_cons ?_ (ob_cons ?_ (ob_cons rfl (ob_cons ?_ (ob_cons ?_ (ob_cons ?_ (ob_cons (Nat.le_refl _) (ob_cons ?_ (ob_cons ?_ (ob_cons ?_ (ob_cons ?_ (ob_cons ?_ (ob_cons ?_ (ob_cons ?_ (ob_cons ?_ ob_nil))))))))))))))))))))))))))))))))))))))))))))))))))))))) (fun h => by cases h) rfl hok (by show m - (ii + 1) < m - ii; omega) rfl (.inr ⟨rfl, Nat.le_refl _⟩) (fun i hi hne => ⟨hi, rfl⟩)
        · exact rfl
        · assumption
        · exact Nat.le_refl _
        · exact fg_no (F := bpF) rfl rfl (fun i => bpMb_f _) rfl (M := (bpT m f ii x).M) (Nat.le_refl _) (fun _ => rfl)
        · exact rfl
        · exact rfl
        · exact rfl
        · exact rfl
        · exact rfl
        · exact rfl
        · exact rfl
        · exact fun _ => rfl
        · exact rfl
        · exact rfl
        · exact rfl
        · exact rfl
        · exact rfl
        · exact rfl
        · exact rfl
        · exact rfl
        · exact Nat.le_refl _
        · exact .inl ⟨rfl, rfl⟩
        · assumption
        · (simp [Nat.blt_eq]; omega)
        · assumption
        · exact eqT hk2n
        · exact eqF hk1
        · exact eqF hk0
        · (simp [Nat.blt_eq]; omega)
        · (simp [Nat.blt_eq]; omega)
        · (simp [Nat.blt_eq]; omega)
      by_cases hn0 : x.n = 0
      · have hok := hnx x (by unfold bpStep; rw [if_neg hk0, if_neg hk1, if_neg hk2n, if_pos hn0])
        refine fam_norm (F := bpF) (s0 := bpU m f q h) (X := Nat × GX BO) (T := fun z => bpT m f z.1 z.2) (x := (ii, x)) (ii + 1, x) x.n false false (bs1_1 ..) (ob_cons rfl (ob_cons rfl (ob_cons rfl (ob_cons rfl (ob_cons rfl (ob_cons rfl (ob_cons rfl (ob_cons rfl (ob_cons ?_ (ob_cons rfl (ob_cons ?_ (ob_cons ?_ (ob_cons rfl (ob_cons rfl (ob_cons rfl (ob_cons rfl (ob_cons rfl (ob_cons (Nat.le_refl _) (ob_cons (.inl ⟨rfl, rfl⟩) (ob_cons rfl (ob_cons (Nat.le_refl _) (ob_cons (.inl ⟨rfl, rfl⟩) (ob_cons rfl (ob_cons rfl (ob_cons rfl (ob_cons rfl (ob_cons rfl (ob_cons rfl (ob_cons rfl (ob_cons rfl (ob_cons (fun _ => rfl) (ob_cons rfl (ob_cons rfl (ob_cons rfl (ob_cons rfl (ob_cons rfl (ob_cons rfl (ob_cons rfl (ob_cons rfl (ob_cons rfl (ob_cons rfl (ob_cons rfl (ob_cons rfl (ob_cons (Nat.le_refl _) (ob_cons (.inl ⟨rfl, rfl⟩) (ob_cons ?_ (ob_cons ?_ (ob_cons ?_ (ob_cons ?_ (ob_cons ?_ (ob_cons ?_ (ob_cons ?_ (ob_cons ?_ ob_nil))))))))))))))))))))))))))))))))))))))))))))))))))))) (fun h => by cases h) rfl hok (by show m - (ii + 1) < m - ii; omega) rfl (.inr ⟨rfl, Nat.le_refl _⟩) (fun i hi hne => ⟨hi, rfl⟩)
        · assumption
        · exact Nat.le_refl _
        · exact fg_no (F := bpF) rfl rfl (fun i => bpMb_f _) rfl (M := (bpT m f ii x).M) (Nat.le_refl _) (fun _ => rfl)
        · assumption
        · (simp [Nat.blt_eq]; omega)
        · exact eqF hk2n
        · exact eqF hk1
        · exact eqF hk0
        · (simp [Nat.blt_eq]; omega)
        · (simp [Nat.blt_eq]; omega)
        · (simp [Nat.blt_eq]; omega)
      have hjx := jU_lt (r := f (0 + ii)) (by rw [Nat.zero_add]; exact hri.2.2) hn0 (by omega)
      generalize hj : jU (f (0 + ii)) x.n = j at hjx
      obtain ⟨hjn, hjr⟩ := hjx
      have hgo : bpStep (f (0 + ii)) x = bpDo x j (x.O j) := by unfold bpStep; rw [if_neg hk0, if_neg hk1, if_neg hk2n, if_neg hn0, hj]
      have hjb : (0 + ((avInt (f (0 + ii) 1)).tmod (IntKind.u64.wrap (Int.ofNat x.n))).toNat).blt (bpT m f ii x).n = true := by
        rw [Nat.zero_add, show ((avInt (f (0 + ii) 1)).tmod (IntKind.u64.wrap (Int.ofNat x.n))).toNat = j from hj]; exact (by simpa [Nat.blt_eq] using hjn : Nat.blt j x.n = true)
      have hjb2 : (((avInt (f (0 + ii) 1)).tmod (IntKind.u64.wrap (Int.ofNat x.n))).toNat.blt x.n && decide (0 ≤ ((avInt (f (0 + ii) 1)).tmod (IntKind.u64.wrap (Int.ofNat x.n))))) = true := by
        rw [show ((avInt (f (0 + ii) 1)).tmod (IntKind.u64.wrap (Int.ofNat x.n))).toNat = j from hj, Bool.and_eq_true]
        exact ⟨by simpa [Nat.blt_eq] using hjn, decide_eq_true hjr⟩
      have hnw : decide (IntKind.u64.wrap (Int.ofNat x.n) ≠ 0) = true := by
        rw [u64w (by simp) (by simp; omega)]
        exact decide_eq_true (by simp; omega)
      have hnr : decide (Int.ofNat x.n > 0) = true := decide_eq_true (by simp; omega)
      have hl : ∀ c, lrow bpF.b0 2 (bpT m f ii x).M j (0 + ((avInt (f (0 + ii) 1)).tmod (IntKind.u64.wrap (Int.ofNat x.n))).toNat) c = mrow 2 900 (bpMb (x.O j)) c := fun c => by
        rw [Nat.zero_add, show ((avInt (f (0 + ii) 1)).tmod (IntKind.u64.wrap (Int.ofNat x.n))).toNat = j from hj]
        exact lrow_j rfl
      have hoo := hE.o j
      have hbS := (bo_mem hE.f (hE.o j)).fine.both
      generalize ho : x.O j = oj at hl hoo hbS hgo
      obtain ⟨t, b, e⟩ := oj
      match t, ho, hl, hoo, hbS, hgo with
      | 0, ho, hl, hoo, hbS, hgo =>
        obtain ⟨-, hob, hol⟩ := hoo
        have q0 : lrow fam0 2 (bpT m f ii x).M j (0 + ((avInt (f (0 + ii) 1)).tmod (IntKind.u64.wrap (Int.ofNat x.n))).toNat) 0 = AV.ptr 900 0 0 := (hl 0).trans rfl
        have q1 : lrow fam0 2 (bpT m f ii x).M j (0 + ((avInt (f (0 + ii) 1)).tmod (IntKind.u64.wrap (Int.ofNat x.n))).toNat) 1 = AV.nilp := (hl 1).trans rfl
        have q2 : lrow fam0 2 (bpT m f ii x).M j (0 + ((avInt (f (0 + ii) 1)).tmod (IntKind.u64.wrap (Int.ofNat x.n))).toNat) 2 = AV.ptr 901 0 0 := (hl 2).trans rfl
        clear hl
        have hok := hnx (b0Y x j b e) (by rw [hgo]; unfold bpDo boO boS boR; (try simp only []); (try rfl))
        have hcl : ((bpT m f (ii + 1) (b0Y x j b e)).M j).cells = ((bpT m f ii x).M j).cells := by show (bpMb (if j = j then (BO.mk 0 b e) else x.O j)).cells = (bpMb (x.O j)).cells; rw [if_pos rfl, ho]; (try rfl)
        have hne : ∀ i, i ≠ j → (bpT m f (ii + 1) (b0Y x j b e)).M i = (bpT m f ii x).M i := fun i hi => by show bpMb (if i = j then _ else x.O i) = _; rw [if_neg hi]; rfl
        refine fam_norm (F := bpF) (s0 := bpU m f q h) (X := Nat × GX BO) (T := fun z => bpT m f z.1 z.2) (x := (ii, x)) (ii + 1, (b0Y x j b e)) j true true (b0_1 ..) (ob_cons rfl (ob_cons rfl (ob_cons rfl (ob_cons rfl (ob_cons rfl (ob_cons rfl (ob_cons ?_ (ob_cons rfl (ob_cons ?_ (ob_cons rfl (ob_cons rfl (ob_cons rfl (ob_cons rfl (ob_cons rfl (ob_cons ?_ (ob_cons ?_ (ob_cons rfl (ob_cons rfl (ob_cons rfl (ob_cons rfl (ob_cons rfl (ob_cons (Nat.le_refl _) (ob_cons (.inl ⟨rfl, rfl⟩) (ob_cons rfl (ob_cons (Nat.le_refl _) (ob_cons (.inl ⟨rfl, rfl⟩) (ob_cons ?_ (ob_cons ?_ (ob_cons ?_ (ob_cons ?_ (ob_cons ?_ (ob_cons ?_ (ob_cons ?_ (ob_cons ?_ (ob_cons ?_ (ob_cons rfl (ob_cons ?_ (ob_cons rfl (ob_cons ?_ (ob_cons ?_ (ob_cons ?_ (ob_cons ?_ (ob_cons ?_ (ob_cons ?_ (ob_cons ?_ (ob_cons ?_ (ob_cons rfl (ob_cons ?_ (ob_cons ?_ (ob_cons ?_ (ob_cons ?_ (ob_cons (Int.le_refl _) (ob_cons (by decide) (ob_cons (Int.le_refl _) (ob_cons (by decide) (ob_cons ?_ (ob_cons ?_ (ob_cons ?_ (ob_cons ?_ (ob_cons ?_ (ob_cons ?_ (ob_cons ?_ (ob_cons ?_ (ob_cons ?_ (ob_cons ?_ (ob_cons ?_ (ob_cons ?_ (ob_cons ?_ ob_nil)))))))))))))))))))))))))))))))))))))))))))))))))))))))))))))))))))) (fun _ => hjn) (by show bpMb (x.O j) = _; rw [ho]) hok (by show m - (ii + 1) < m - ii; omega) (by show bpMb (if j = j then _ else _) = _; rw [if_pos rfl]) (.inl ⟨rfl, hjn⟩) (fun i hi hne => ⟨hi, (by show bpMb (if i = j then _ else _) = bpMb _; rw [if_neg hne])⟩)
        · exact rfl
        · assumption
        · exact Nat.le_refl _
        · exact fg_do (F := bpF) rfl rfl (fun i => bpMb_f _) rfl (M := (bpT m f ii x).M) (j := j) hcl hne rfl
        · exact rfl
        · exact rfl
        · exact rfl
        · exact rfl
        · exact rfl
        · exact rfl
        · exact rfl
        · exact rfl
        · exact fun _ => rfl
        · exact rfl
        · exact rfl
        · exact rfl
        · exact rfl
        · exact rfl
        · exact rfl
        · exact rfl
        · exact rfl
        · exact rfl
        · exact Nat.le_refl _
        · exact .inl ⟨rfl, rfl⟩
        · assumption
        · (simp; done)
        · assumption
        · assumption
        · assumption
        · assumption
        · assumption
        · assumption
        · assumption
        · exact eqF hk2n
        · exact eqF hk1
        · exact eqF hk0
        · (simp [Nat.blt_eq]; omega)
        · (simp [Nat.blt_eq]; omega)
        · (simp [Nat.blt_eq]; omega)
      | 1, ho, hl, hoo, hbS, hgo =>
        obtain ⟨-, hob, hol⟩ := hoo
        have q0 : lrow fam0 2 (bpT m f ii x).M j (0 + ((avInt (f (0 + ii) 1)).tmod (IntKind.u64.wrap (Int.ofNat x.n))).toNat) 0 = AV.ptr 900 0 0 := (hl 0).trans rfl
        have q1 : lrow fam0 2 (bpT m f ii x).M j (0 + ((avInt (f (0 + ii) 1)).tmod (IntKind.u64.wrap (Int.ofNat x.n))).toNat) 1 = AV.nilp := (hl 1).trans rfl
        have q2 : lrow fam0 2 (bpT m f ii x).M j (0 + ((avInt (f (0 + ii) 1)).tmod (IntKind.u64.wrap (Int.ofNat x.n))).toNat) 2 = AV.ptr 901 0 0 := (hl 2).trans rfl
        clear hl
        have hwd : dWord (xD x) 5 0 0 = (mget x.S.M (key 5 0 0)) := (hb.agr _ _ _).symm
        by_cases hs : 4 ≤ mget x.S.M (key 5 0 0)
        ·
          have hok := hnx (b1aY x j b e) (by rw [hgo]; unfold bpDo boO boS boR; (try simp only []); rw [show boB x.S = mget x.S.M (key 5 0 0) from rfl, if_pos hs]; (try rfl))
          have hcl : ((bpT m f (ii + 1) (b1aY x j b e)).M j).cells = ((bpT m f ii x).M j).cells := by show (bpMb (if j = j then (BO.mk 0 (mget x.S.M (key 5 0 0)) 5) else x.O j)).cells = (bpMb (x.O j)).cells; rw [if_pos rfl, ho]; (try rfl)
          have hne : ∀ i, i ≠ j → (bpT m f (ii + 1) (b1aY x j b e)).M i = (bpT m f ii x).M i := fun i hi => by show bpMb (if i = j then _ else x.O i) = _; rw [if_neg hi]; rfl
          refine fam_norm (F := bpF) (s0 := bpU m f q h) (X := Nat × GX BO) (T := fun z => bpT m f z.1 z.2) (x := (ii, x)) (ii + 1, (b1aY x j b e)) j true true (b1a_1 ..) (ob_cons rfl (ob_cons rfl (ob_cons rfl (ob_cons rfl (ob_cons rfl (ob_cons rfl (ob_cons ?_ (ob_cons rfl (ob_cons ?_ (ob_cons ?_ (ob_cons rfl (ob_cons rfl (ob_cons ?_ (ob_cons rfl (ob_cons ?_ (ob_cons ?_ (ob_cons rfl (ob_cons rfl (ob_cons rfl (ob_cons rfl (ob_cons rfl (ob_cons (Nat.le_refl _) (ob_cons (.inl ⟨rfl, rfl⟩) (ob_cons rfl (ob_cons (Nat.le_refl _) (ob_cons (.inl ⟨rfl, rfl⟩) (ob_cons ?_ (ob_cons rfl (ob_cons rfl (ob_cons rfl (ob_cons rfl (ob_cons ?_ (ob_cons ?_ (ob_cons ?_ (ob_cons ?_ (ob_cons rfl (ob_cons ?_ (ob_cons rfl (ob_cons ?_ (ob_cons rfl (ob_cons rfl (ob_cons rfl (ob_cons rfl (ob_cons ?_ (ob_cons ?_ (ob_cons ?_ (ob_cons rfl (ob_cons ?_ (ob_cons ?_ (ob_cons ?_ (ob_cons ?_ (ob_cons ?_ (ob_cons (Nat.le_refl _) (ob_cons ?_ (ob_cons (Int.le_refl _) (ob_cons (by decide) (ob_cons (Int.le_refl _) (ob_cons (by decide) (ob_cons ?_ (ob_cons ?_ (ob_cons ?_ (ob_cons ?_ (ob_cons ?_ (ob_cons ?_ (ob_cons ?_ (ob_cons ?_ (ob_cons ?_ (ob_cons ?_ (ob_cons ?_ (ob_cons ?_ (ob_cons ?_ ob_nil))))))))))))))))))))))))))))))))))))))))))))))))))))))))))))))))))))))) (fun _ => hjn) (by show bpMb (x.O j) = _; rw [ho]) hok (by show m - (ii + 1) < m - ii; omega) (by show bpMb (if j = j then _ else _) = _; rw [if_pos rfl]) (.inl ⟨rfl, hjn⟩) (fun i hi hne => ⟨hi, (by show bpMb (if i = j then _ else _) = bpMb _; rw [if_neg hne])⟩)
          · exact rfl
          · assumption
          · exact rfl
          · assumption
          · exact Nat.le_refl _
          · exact fg_do (F := bpF) rfl rfl (fun i => bpMb_f _) rfl (M := (bpT m f ii x).M) (j := j) hcl hne rfl
          · exact rfl
          · exact rfl
          · exact rfl
          · exact rfl
          · exact fun _ => rfl
          · exact rfl
          · exact rfl
          · exact rfl
          · exact rfl
          · exact rfl
          · exact Nat.le_refl _
          · exact .inl ⟨rfl, rfl⟩
          · assumption
          · exact decide_eq_true hs
          · (rw [hwd]; exact decide_eq_true hs)
          · (simp [Nat.blt_eq]; omega)
          · assumption
          · assumption
          · assumption
          · assumption
          · assumption
          · assumption
          · assumption
          · exact eqF hk2n
          · exact eqF hk1
          · exact eqF hk0
          · (simp [Nat.blt_eq]; omega)
          · (simp [Nat.blt_eq]; omega)
          · (simp [Nat.blt_eq]; omega)
        ·
          have hok := hnx (b1bY x j b e) (by rw [hgo]; unfold bpDo boO boS boR; (try simp only []); rw [show boB x.S = mget x.S.M (key 5 0 0) from rfl, if_neg hs]; (try rfl))
          have hcl : ((bpT m f (ii + 1) (b1bY x j b e)).M j).cells = ((bpT m f ii x).M j).cells := by show (bpMb (if j = j then (BO.mk 2 (mget x.S.M (key 5 0 0)) e) else x.O j)).cells = (bpMb (x.O j)).cells; rw [if_pos rfl, ho]; (try rfl)
          have hne : ∀ i, i ≠ j → (bpT m f (ii + 1) (b1bY x j b e)).M i = (bpT m f ii x).M i := fun i hi => by show bpMb (if i = j then _ else x.O i) = _; rw [if_neg hi]; rfl
          refine fam_norm (F := bpF) (s0 := bpU m f q h) (X := Nat × GX BO) (T := fun z => bpT m f z.1 z.2) (x := (ii, x)) (ii + 1, (b1bY x j b e)) j true true (b1b_1 ..) (ob_cons rfl (ob_cons rfl (ob_cons rfl (ob_cons rfl (ob_cons rfl (ob_cons rfl (ob_cons ?_ (ob_cons rfl (ob_cons ?_ (ob_cons ?_ (ob_cons ?_ (ob_cons ?_ (ob_cons ?_ (ob_cons rfl (ob_cons ?_ (ob_cons ?_ (ob_cons rfl (ob_cons rfl (ob_cons rfl (ob_cons rfl (ob_cons rfl (ob_cons (Nat.le_refl _) (ob_cons (.inl ⟨rfl, rfl⟩) (ob_cons rfl (ob_cons (Nat.le_refl _) (ob_cons (.inl ⟨rfl, rfl⟩) (ob_cons ?_ (ob_cons rfl (ob_cons rfl (ob_cons rfl (ob_cons rfl (ob_cons ?_ (ob_cons ?_ (ob_cons ?_ (ob_cons ?_ (ob_cons rfl (ob_cons ?_ (ob_cons rfl (ob_cons ?_ (ob_cons rfl (ob_cons rfl (ob_cons rfl (ob_cons rfl (ob_cons ?_ (ob_cons ?_ (ob_cons ?_ (ob_cons rfl (ob_cons ?_ (ob_cons ?_ (ob_cons ?_ (ob_cons ?_ (ob_cons ?_ (ob_cons ?_ (ob_cons (Nat.le_refl _) (ob_cons ?_ (ob_cons (Int.le_refl _) (ob_cons (by decide) (ob_cons (Int.le_refl _) (ob_cons (by decide) (ob_cons ?_ (ob_cons ?_ (ob_cons ?_ (ob_cons ?_ (ob_cons ?_ (ob_cons ?_ (ob_cons ?_ (ob_cons ?_ (ob_cons ?_ (ob_cons ?_ (ob_cons ?_ (ob_cons ?_ (ob_cons ?_ ob_nil)))))))))))))))))))))))))))))))))))))))))))))))))))))))))))))))))))))))) (fun _ => hjn) (by show bpMb (x.O j) = _; rw [ho]) hok (by show m - (ii + 1) < m - ii; omega) (by show bpMb (if j = j then _ else _) = _; rw [if_pos rfl]) (.inl ⟨rfl, hjn⟩) (fun i hi hne => ⟨hi, (by show bpMb (if i = j then _ else _) = bpMb _; rw [if_neg hne])⟩)
          · exact rfl
          · assumption
          · exact rfl
          · exact rfl
          · exact rfl
          · assumption
          · exact Nat.le_refl _
          · exact fg_do (F := bpF) rfl rfl (fun i => bpMb_f _) rfl (M := (bpT m f ii x).M) (j := j) hcl hne rfl
          · exact rfl
          · exact rfl
          · exact rfl
          · exact rfl
          · exact fun _ => rfl
          · exact rfl
          · exact rfl
          · exact rfl
          · exact rfl
          · exact rfl
          · exact Nat.le_refl _
          · exact .inl ⟨rfl, rfl⟩
          · assumption
          · (simp; done)
          · exact decide_eq_false hs
          · (rw [hwd]; exact decide_eq_false hs)
          · (simp [Nat.blt_eq]; omega)
          · assumption
          · assumption
          · assumption
          · assumption
          · assumption
          · assumption
          · assumption
          · exact eqF hk2n
          · exact eqF hk1
          · exact eqF hk0
          · (simp [Nat.blt_eq]; omega)
          · (simp [Nat.blt_eq]; omega)
          · (simp [Nat.blt_eq]; omega)
      | 2, ho, hl, hoo, hbS, hgo =>
        obtain ⟨-, hob, hol⟩ := hoo
        have q0 : lrow fam0 2 (bpT m f ii x).M j (0 + ((avInt (f (0 + ii) 1)).tmod (IntKind.u64.wrap (Int.ofNat x.n))).toNat) 0 = AV.ptr 900 0 0 := (hl 0).trans rfl
        have q1 : lrow fam0 2 (bpT m f ii x).M j (0 + ((avInt (f (0 + ii) 1)).tmod (IntKind.u64.wrap (Int.ofNat x.n))).toNat) 1 = AV.nilp := (hl 1).trans rfl
        have q2 : lrow fam0 2 (bpT m f ii x).M j (0 + ((avInt (f (0 + ii) 1)).tmod (IntKind.u64.wrap (Int.ofNat x.n))).toNat) 2 = AV.ptr 901 0 0 := (hl 2).trans rfl
        clear hl
        have hcd : dCasD (xD x) 5 0 0 b = casD x.S.M 5 0 0 b := (hb.agr.casD _ _ _ _).symm
        by_cases hc : casD x.S.M 5 0 0 b = true
        ·
          have hok := hnx (b2aY x j b e) (by rw [hgo]; unfold bpDo boO boS boR; (try simp only []); rw [if_pos hc]; (try rfl))
          have hcl : ((bpT m f (ii + 1) (b2aY x j b e)).M j).cells = ((bpT m f ii x).M j).cells := by show (bpMb (if j = j then (BO.mk 3 b e) else x.O j)).cells = (bpMb (x.O j)).cells; rw [if_pos rfl, ho]; (try rfl)
          have hne : ∀ i, i ≠ j → (bpT m f (ii + 1) (b2aY x j b e)).M i = (bpT m f ii x).M i := fun i hi => by show bpMb (if i = j then _ else x.O i) = _; rw [if_neg hi]; rfl
          refine fam_norm (F := bpF) (s0 := bpU m f q h) (X := Nat × GX BO) (T := fun z => bpT m f z.1 z.2) (x := (ii, x)) (ii + 1, (b2aY x j b e)) j true true (b2a_1 ..) (ob_cons rfl (ob_cons rfl (ob_cons rfl (ob_cons rfl (ob_cons rfl (ob_cons rfl (ob_cons ?_ (ob_cons rfl (ob_cons ?_ (ob_cons ?_ (ob_cons ?_ (ob_cons ?_ (ob_cons ?_ (ob_cons rfl (ob_cons ?_ (ob_cons ?_ (ob_cons rfl (ob_cons rfl (ob_cons rfl (ob_cons rfl (ob_cons rfl (ob_cons (Nat.le_refl _) (ob_cons (.inl ⟨rfl, rfl⟩) (ob_cons rfl (ob_cons (Nat.le_refl _) (ob_cons (.inl ⟨rfl, rfl⟩) (ob_cons ?_ (ob_cons rfl (ob_cons rfl (ob_cons rfl (ob_cons rfl (ob_cons ?_ (ob_cons ?_ (ob_cons ?_ (ob_cons ?_ (ob_cons rfl (ob_cons ?_ (ob_cons rfl (ob_cons ?_ (ob_cons rfl (ob_cons rfl (ob_cons rfl (ob_cons rfl (ob_cons ?_ (ob_cons ?_ (ob_cons ?_ (ob_cons rfl (ob_cons ?_ (ob_cons ?_ (ob_cons ?_ (ob_cons ?_ (ob_cons ?_ (ob_cons (by decide) (ob_cons ?_ (ob_cons (Nat.le_refl _) (ob_cons ?_ (ob_cons (by decide) (ob_cons (Int.le_refl _) (ob_cons (by decide) (ob_cons (Int.le_refl _) (ob_cons (by decide) (ob_cons ?_ (ob_cons ?_ (ob_cons ?_ (ob_cons ?_ (ob_cons ?_ (ob_cons ?_ (ob_cons ?_ (ob_cons ?_ (ob_cons ?_ (ob_cons ?_ (ob_cons ?_ (ob_cons ?_ (ob_cons ?_ ob_nil)))))))))))))))))))))))))))))))))))))))))))))))))))))))))))))))))))))))))) (fun _ => hjn) (by show bpMb (x.O j) = _; rw [ho]) hok (by show m - (ii + 1) < m - ii; omega) (by show bpMb (if j = j then _ else _) = _; rw [if_pos rfl]) (.inl ⟨rfl, hjn⟩) (fun i hi hne => ⟨hi, (by show bpMb (if i = j then _ else _) = bpMb _; rw [if_neg hne])⟩)
          · exact rfl
          · assumption
          · exact rfl
          · exact rfl
          · exact rfl
          · exact rfl
          · exact Nat.le_refl _
          · exact fg_do (F := bpF) rfl rfl (fun i => bpMb_f _) rfl (M := (bpT m f ii x).M) (j := j) hcl hne rfl
          · exact rfl
          · exact rfl
          · exact rfl
          · exact rfl
          · exact fun _ => rfl
          · exact rfl
          · exact rfl
          · exact rfl
          · exact rfl
          · exact rfl
          · exact Nat.le_refl _
          · exact .inl ⟨rfl, rfl⟩
          · assumption
          · (simp; done)
          · assumption
          · (rw [hcd]; exact hc)
          · (simp [Nat.blt_eq]; omega)
          · assumption
          · assumption
          · assumption
          · assumption
          · assumption
          · assumption
          · assumption
          · exact eqF hk2n
          · exact eqF hk1
          · exact eqF hk0
          · (simp [Nat.blt_eq]; omega)
          · (simp [Nat.blt_eq]; omega)
          · (simp [Nat.blt_eq]; omega)
        ·
          have hcf : casD x.S.M 5 0 0 b = false := by simpa using hc
          have hok := hnx (b2bY x j b e) (by rw [hgo]; unfold bpDo boO boS boR; (try simp only []); rw [if_neg hc]; (try rfl))
          have hcl : ((bpT m f (ii + 1) (b2bY x j b e)).M j).cells = ((bpT m f ii x).M j).cells := by show (bpMb (if j = j then (BO.mk 1 b e) else x.O j)).cells = (bpMb (x.O j)).cells; rw [if_pos rfl, ho]; (try rfl)
          have hne : ∀ i, i ≠ j → (bpT m f (ii + 1) (b2bY x j b e)).M i = (bpT m f ii x).M i := fun i hi => by show bpMb (if i = j then _ else x.O i) = _; rw [if_neg hi]; rfl
          refine fam_norm (F := bpF) (s0 := bpU m f q h) (X := Nat × GX BO) (T := fun z => bpT m f z.1 z.2) (x := (ii, x)) (ii + 1, (b2bY x j b e)) j true true (b2b_1 ..) (ob_cons rfl (ob_cons rfl (ob_cons rfl (ob_cons rfl (ob_cons rfl (ob_cons rfl (ob_cons ?_ (ob_cons rfl (ob_cons ?_ (ob_cons ?_ (ob_cons ?_ (ob_cons ?_ (ob_cons ?_ (ob_cons rfl (ob_cons ?_ (ob_cons ?_ (ob_cons rfl (ob_cons rfl (ob_cons rfl (ob_cons rfl (ob_cons rfl (ob_cons (Nat.le_refl _) (ob_cons (.inl ⟨rfl, rfl⟩) (ob_cons rfl (ob_cons (Nat.le_refl _) (ob_cons (.inl ⟨rfl, rfl⟩) (ob_cons ?_ (ob_cons rfl (ob_cons rfl (ob_cons rfl (ob_cons rfl (ob_cons ?_ (ob_cons ?_ (ob_cons ?_ (ob_cons ?_ (ob_cons rfl (ob_cons ?_ (ob_cons rfl (ob_cons ?_ (ob_cons rfl (ob_cons rfl (ob_cons rfl (ob_cons rfl (ob_cons ?_ (ob_cons ?_ (ob_cons ?_ (ob_cons rfl (ob_cons ?_ (ob_cons ?_ (ob_cons ?_ (ob_cons ?_ (ob_cons ?_ (ob_cons (by decide) (ob_cons ?_ (ob_cons (Nat.le_refl _) (ob_cons ?_ (ob_cons (by decide) (ob_cons (Int.le_refl _) (ob_cons (by decide) (ob_cons (Int.le_refl _) (ob_cons (by decide) (ob_cons ?_ (ob_cons ?_ (ob_cons ?_ (ob_cons ?_ (ob_cons ?_ (ob_cons ?_ (ob_cons ?_ (ob_cons ?_ (ob_cons ?_ (ob_cons ?_ (ob_cons ?_ (ob_cons ?_ (ob_cons ?_ ob_nil)))))))))))))))))))))))))))))))))))))))))))))))))))))))))))))))))))))))))) (fun _ => hjn) (by show bpMb (x.O j) = _; rw [ho]) hok (by show m - (ii + 1) < m - ii; omega) (by show bpMb (if j = j then _ else _) = _; rw [if_pos rfl]) (.inl ⟨rfl, hjn⟩) (fun i hi hne => ⟨hi, (by show bpMb (if i = j then _ else _) = bpMb _; rw [if_neg hne])⟩)
          · exact rfl
          · assumption
          · exact rfl
          · exact rfl
          · exact rfl
          · exact rfl
          · exact Nat.le_refl _
          · exact fg_do (F := bpF) rfl rfl (fun i => bpMb_f _) rfl (M := (bpT m f ii x).M) (j := j) hcl hne rfl
          · exact rfl
          · exact rfl
          · exact rfl
          · exact rfl
          · exact fun _ => rfl
          · exact rfl
          · exact rfl
          · exact rfl
          · exact rfl
          · exact rfl
          · exact Nat.le_refl _
          · exact .inl ⟨rfl, rfl⟩
          · assumption
          · (simp; done)
          · assumption
          · (rw [hcd]; exact hcf)
          · (simp [Nat.blt_eq]; omega)
          · assumption
          · assumption
          · assumption
          · assumption
          · assumption
          · assumption
          · assumption
          · exact eqF hk2n
          · exact eqF hk1
          · exact eqF hk0
          · (simp [Nat.blt_eq]; omega)
          · (simp [Nat.blt_eq]; omega)
          · (simp [Nat.blt_eq]; omega)
      | 3, ho, hl, hoo, hbS, hgo =>
        obtain ⟨-, hob, hol⟩ := hoo
        have q0 : lrow fam0 2 (bpT m f ii x).M j (0 + ((avInt (f (0 + ii) 1)).tmod (IntKind.u64.wrap (Int.ofNat x.n))).toNat) 0 = AV.ptr 900 0 0 := (hl 0).trans rfl
        have q1 : lrow fam0 2 (bpT m f ii x).M j (0 + ((avInt (f (0 + ii) 1)).tmod (IntKind.u64.wrap (Int.ofNat x.n))).toNat) 1 = AV.nilp := (hl 1).trans rfl
        have q2 : lrow fam0 2 (bpT m f ii x).M j (0 + ((avInt (f (0 + ii) 1)).tmod (IntKind.u64.wrap (Int.ofNat x.n))).toNat) 2 = AV.ptr 901 0 0 := (hl 2).trans rfl
        clear hl
        have hok := hnx (b3Y x j b e) (by rw [hgo]; unfold bpDo boO boS boR; (try simp only []); (try rfl))
        have hcl : ((bpT m f (ii + 1) (b3Y x j b e)).M j).cells = ((bpT m f ii x).M j).cells := by show (bpMb (if j = j then (BO.mk 0 b 0) else x.O j)).cells = (bpMb (x.O j)).cells; rw [if_pos rfl, ho]; (try rfl)
        have hne : ∀ i, i ≠ j → (bpT m f (ii + 1) (b3Y x j b e)).M i = (bpT m f ii x).M i := fun i hi => by show bpMb (if i = j then _ else x.O i) = _; rw [if_neg hi]; rfl
        refine fam_norm (F := bpF) (s0 := bpU m f q h) (X := Nat × GX BO) (T := fun z => bpT m f z.1 z.2) (x := (ii, x)) (ii + 1, (b3Y x j b e)) j true true (b3_1 ..) (ob_cons rfl (ob_cons rfl (ob_cons rfl (ob_cons rfl (ob_cons rfl (ob_cons rfl (ob_cons ?_ (ob_cons rfl (ob_cons ?_ (ob_cons ?_ (ob_cons rfl (ob_cons rfl (ob_cons ?_ (ob_cons rfl (ob_cons ?_ (ob_cons ?_ (ob_cons rfl (ob_cons rfl (ob_cons rfl (ob_cons rfl (ob_cons rfl (ob_cons (Nat.le_refl _) (ob_cons (.inl ⟨rfl, rfl⟩) (ob_cons rfl (ob_cons (Nat.le_refl _) (ob_cons (.inl ⟨rfl, rfl⟩) (ob_cons ?_ (ob_cons rfl (ob_cons rfl (ob_cons ?_ (ob_cons rfl (ob_cons ?_ (ob_cons ?_ (ob_cons ?_ (ob_cons ?_ (ob_cons rfl (ob_cons ?_ (ob_cons rfl (ob_cons ?_ (ob_cons rfl (ob_cons rfl (ob_cons ?_ (ob_cons rfl (ob_cons ?_ (ob_cons ?_ (ob_cons ?_ (ob_cons rfl (ob_cons ?_ (ob_cons ?_ (ob_cons ?_ (ob_cons (by decide) (ob_cons (tabIs_self _) (ob_cons (Int.le_refl _) (ob_cons (by decide) (ob_cons (tabIs_self _) (ob_cons (Int.le_refl _) (ob_cons (by decide) (ob_cons (Nat.le_refl _) (ob_cons ?_ (ob_cons (by decide) (ob_cons (Int.le_refl _) (ob_cons (by decide) (ob_cons (Int.le_refl _) (ob_cons (by decide) (ob_cons ?_ (ob_cons ?_ (ob_cons ?_ (ob_cons ?_ (ob_cons ?_ (ob_cons ?_ (ob_cons ?_ (ob_cons ?_ (ob_cons ?_ (ob_cons ?_ (ob_cons ?_ (ob_cons ?_ (ob_cons ?_ ob_nil))))))))))))))))))))))))))))))))))))))))))))))))))))))))))))))))))))))))))))) (fun _ => hjn) (by show bpMb (x.O j) = _; rw [ho]) hok (by show m - (ii + 1) < m - ii; omega) (by show bpMb (if j = j then _ else _) = _; rw [if_pos rfl]) (.inl ⟨rfl, hjn⟩) (fun i hi hne => ⟨hi, (by show bpMb (if i = j then _ else _) = bpMb _; rw [if_neg hne])⟩)
        · exact rfl
        · assumption
        · exact rfl
        · exact rfl
        · exact Nat.le_refl _
        · exact fg_do (F := bpF) rfl rfl (fun i => bpMb_f _) rfl (M := (bpT m f ii x).M) (j := j) hcl hne rfl
        · exact rfl
        · exact rfl
        · exact rfl
        · exact rfl
        · exact rfl
        · exact fun _ => rfl
        · exact rfl
        · exact rfl
        · exact rfl
        · exact rfl
        · exact rfl
        · exact rfl
        · exact Nat.le_refl _
        · exact .inl ⟨rfl, rfl⟩
        · assumption
        · (simp [Nat.blt_eq]; omega)
        · assumption
        · assumption
        · assumption
        · assumption
        · assumption
        · assumption
        · assumption
        · exact eqF hk2n
        · exact eqF hk1
        · exact eqF hk0
        · (simp [Nat.blt_eq]; omega)
        · (simp [Nat.blt_eq]; omega)
        · (simp [Nat.blt_eq]; omega)
      | 4, ho, hl, hoo, hbS, hgo =>
        obtain ⟨-, hob, hol⟩ := hoo
        have q0 : lrow fam0 2 (bpT m f ii x).M j (0 + ((avInt (f (0 + ii) 1)).tmod (IntKind.u64.wrap (Int.ofNat x.n))).toNat) 0 = AV.nilp := (hl 0).trans rfl
        have q1 : lrow fam0 2 (bpT m f ii x).M j (0 + ((avInt (f (0 + ii) 1)).tmod (IntKind.u64.wrap (Int.ofNat x.n))).toNat) 1 = AV.ptr 900 0 0 := (hl 1).trans rfl
        have q2 : lrow fam0 2 (bpT m f ii x).M j (0 + ((avInt (f (0 + ii) 1)).tmod (IntKind.u64.wrap (Int.ofNat x.n))).toNat) 2 = AV.ptr 901 0 0 := (hl 2).trans rfl
        clear hl
        have hok := hnx (b4Y x j b e) (by rw [hgo]; unfold bpDo boO boS boR; (try simp only []); (try rfl))
        have hcl : ((bpT m f (ii + 1) (b4Y x j b e)).M j).cells = ((bpT m f ii x).M j).cells := by show (bpMb (if j = j then (BO.mk 4 b e) else x.O j)).cells = (bpMb (x.O j)).cells; rw [if_pos rfl, ho]; (try rfl)
        have hne : ∀ i, i ≠ j → (bpT m f (ii + 1) (b4Y x j b e)).M i = (bpT m f ii x).M i := fun i hi => by show bpMb (if i = j then _ else x.O i) = _; rw [if_neg hi]; rfl
        refine fam_norm (F := bpF) (s0 := bpU m f q h) (X := Nat × GX BO) (T := fun z => bpT m f z.1 z.2) (x := (ii, x)) (ii + 1, (b4Y x j b e)) j true true (b4_1 ..) (ob_cons rfl (ob_cons rfl (ob_cons rfl (ob_cons rfl (ob_cons rfl (ob_cons rfl (ob_cons ?_ (ob_cons rfl (ob_cons ?_ (ob_cons rfl (ob_cons rfl (ob_cons rfl (ob_cons rfl (ob_cons rfl (ob_cons ?_ (ob_cons ?_ (ob_cons rfl (ob_cons rfl (ob_cons rfl (ob_cons rfl (ob_cons rfl (ob_cons (Nat.le_refl _) (ob_cons (.inl ⟨rfl, rfl⟩) (ob_cons rfl (ob_cons (Nat.le_refl _) (ob_cons (.inl ⟨rfl, rfl⟩) (ob_cons ?_ (ob_cons ?_ (ob_cons ?_ (ob_cons ?_ (ob_cons ?_ (ob_cons ?_ (ob_cons ?_ (ob_cons ?_ (ob_cons ?_ (ob_cons rfl (ob_cons ?_ (ob_cons rfl (ob_cons ?_ (ob_cons ?_ (ob_cons ?_ (ob_cons ?_ (ob_cons ?_ (ob_cons ?_ (ob_cons ?_ (ob_cons ?_ (ob_cons rfl (ob_cons ?_ (ob_cons ?_ (ob_cons ?_ (ob_cons ?_ (ob_cons (Int.le_refl _) (ob_cons (by decide) (ob_cons (Int.le_refl _) (ob_cons (by decide) (ob_cons ?_ (ob_cons ?_ (ob_cons ?_ (ob_cons ?_ (ob_cons ?_ (ob_cons ?_ (ob_cons ?_ (ob_cons ?_ (ob_cons ?_ (ob_cons ?_ (ob_cons ?_ (ob_cons ?_ (ob_cons ?_ ob_nil)))))))))))))))))))))))))))))))))))))))))))))))))))))))))))))))))))) (fun _ => hjn) (by show bpMb (x.O j) = _; rw [ho]) hok (by show m - (ii + 1) < m - ii; omega) (by show bpMb (if j = j then _ else _) = _; rw [if_pos rfl]) (.inl ⟨rfl, hjn⟩) (fun i hi hne => ⟨hi, (by show bpMb (if i = j then _ else _) = bpMb _; rw [if_neg hne])⟩)
        · exact rfl
        · assumption
        · exact Nat.le_refl _
        · exact fg_do (F := bpF) rfl rfl (fun i => bpMb_f _) rfl (M := (bpT m f ii x).M) (j := j) hcl hne rfl
        · exact rfl
        · exact rfl
        · exact rfl
        · exact rfl
        · exact rfl
        · exact rfl
        · exact rfl
        · exact rfl
        · exact fun _ => rfl
        · exact rfl
        · exact rfl
        · exact rfl
        · exact rfl
        · exact rfl
        · exact rfl
        · exact rfl
        · exact rfl
        · exact rfl
        · exact Nat.le_refl _
        · exact .inl ⟨rfl, rfl⟩
        · assumption
        · (simp; done)
        · assumption
        · assumption
        · assumption
        · assumption
        · assumption
        · assumption
        · assumption
        · exact eqF hk2n
        · exact eqF hk1
        · exact eqF hk0
        · (simp [Nat.blt_eq]; omega)
        · (simp [Nat.blt_eq]; omega)
        · (simp [Nat.blt_eq]; omega)
      | 5, ho, hl, hoo, hbS, hgo =>
        obtain ⟨-, hob, hol⟩ := hoo
        have q0 : lrow fam0 2 (bpT m f ii x).M j (0 + ((avInt (f (0 + ii) 1)).tmod (IntKind.u64.wrap (Int.ofNat x.n))).toNat) 0 = AV.nilp := (hl 0).trans rfl
        have q1 : lrow fam0 2 (bpT m f ii x).M j (0 + ((avInt (f (0 + ii) 1)).tmod (IntKind.u64.wrap (Int.ofNat x.n))).toNat) 1 = AV.ptr 900 0 0 := (hl 1).trans rfl
        have q2 : lrow fam0 2 (bpT m f ii x).M j (0 + ((avInt (f (0 + ii) 1)).tmod (IntKind.u64.wrap (Int.ofNat x.n))).toNat) 2 = AV.ptr 901 0 0 := (hl 2).trans rfl
        clear hl
        have hwd : dWord (xD x) 5 0 0 = (mget x.S.M (key 5 0 0)) := (hb.agr _ _ _).symm
        by_cases hs : mget x.S.M (key 5 0 0) ≤ 1
        ·
          have hok := hnx (b5aY x j b e) (by rw [hgo]; unfold bpDo boO boS boR; (try simp only []); rw [show boB x.S = mget x.S.M (key 5 0 0) from rfl, if_pos hs]; (try rfl))
          have hcl : ((bpT m f (ii + 1) (b5aY x j b e)).M j).cells = ((bpT m f ii x).M j).cells := by show (bpMb (if j = j then (BO.mk 4 (mget x.S.M (key 5 0 0)) 4) else x.O j)).cells = (bpMb (x.O j)).cells; rw [if_pos rfl, ho]; (try rfl)
          have hne : ∀ i, i ≠ j → (bpT m f (ii + 1) (b5aY x j b e)).M i = (bpT m f ii x).M i := fun i hi => by show bpMb (if i = j then _ else x.O i) = _; rw [if_neg hi]; rfl
          refine fam_norm (F := bpF) (s0 := bpU m f q h) (X := Nat × GX BO) (T := fun z => bpT m f z.1 z.2) (x := (ii, x)) (ii + 1, (b5aY x j b e)) j true true (b5a_1 ..) (ob_cons rfl (ob_cons rfl (ob_cons rfl (ob_cons rfl (ob_cons rfl (ob_cons rfl (ob_cons ?_ (ob_cons rfl (ob_cons ?_ (ob_cons ?_ (ob_cons rfl (ob_cons rfl (ob_cons ?_ (ob_cons rfl (ob_cons ?_ (ob_cons ?_ (ob_cons rfl (ob_cons rfl (ob_cons rfl (ob_cons rfl (ob_cons rfl (ob_cons (Nat.le_refl _) (ob_cons (.inl ⟨rfl, rfl⟩) (ob_cons rfl (ob_cons (Nat.le_refl _) (ob_cons (.inl ⟨rfl, rfl⟩) (ob_cons ?_ (ob_cons rfl (ob_cons rfl (ob_cons rfl (ob_cons rfl (ob_cons ?_ (ob_cons ?_ (ob_cons ?_ (ob_cons ?_ (ob_cons rfl (ob_cons ?_ (ob_cons rfl (ob_cons ?_ (ob_cons rfl (ob_cons rfl (ob_cons rfl (ob_cons rfl (ob_cons ?_ (ob_cons ?_ (ob_cons ?_ (ob_cons rfl (ob_cons ?_ (ob_cons ?_ (ob_cons ?_ (ob_cons ?_ (ob_cons ?_ (ob_cons (Nat.le_refl _) (ob_cons ?_ (ob_cons (Int.le_refl _) (ob_cons (by decide) (ob_cons (Int.le_refl _) (ob_cons (by decide) (ob_cons ?_ (ob_cons ?_ (ob_cons ?_ (ob_cons ?_ (ob_cons ?_ (ob_cons ?_ (ob_cons ?_ (ob_cons ?_ (ob_cons ?_ (ob_cons ?_ (ob_cons ?_ (ob_cons ?_ (ob_cons ?_ ob_nil))))))))))))))))))))))))))))))))))))))))))))))))))))))))))))))))))))))) (fun _ => hjn) (by show bpMb (x.O j) = _; rw [ho]) hok (by show m - (ii + 1) < m - ii; omega) (by show bpMb (if j = j then _ else _) = _; rw [if_pos rfl]) (.inl ⟨rfl, hjn⟩) (fun i hi hne => ⟨hi, (by show bpMb (if i = j then _ else _) = bpMb _; rw [if_neg hne])⟩)
          · exact rfl
          · assumption
          · exact rfl
          · assumption
          · exact Nat.le_refl _
          · exact fg_do (F := bpF) rfl rfl (fun i => bpMb_f _) rfl (M := (bpT m f ii x).M) (j := j) hcl hne rfl
          · exact rfl
          · exact rfl
          · exact rfl
          · exact rfl
          · exact fun _ => rfl
          · exact rfl
          · exact rfl
          · exact rfl
          · exact rfl
          · exact rfl
          · exact Nat.le_refl _
          · exact .inl ⟨rfl, rfl⟩
          · assumption
          · exact decide_eq_true hs
          · (rw [hwd]; exact decide_eq_true hs)
          · (simp [Nat.blt_eq]; omega)
          · assumption
          · assumption
          · assumption
          · assumption
          · assumption
          · assumption
          · assumption
          · exact eqF hk2n
          · exact eqF hk1
          · exact eqF hk0
          · (simp [Nat.blt_eq]; omega)
          · (simp [Nat.blt_eq]; omega)
          · (simp [Nat.blt_eq]; omega)
        ·
          by_cases hs2 : 4 < mget x.S.M (key 5 0 0)
          ·
            have hok := hnx (b5bY x j b e) (by rw [hgo]; unfold bpDo boO boS boR; (try simp only []); rw [show boB x.S = mget x.S.M (key 5 0 0) from rfl, if_neg hs, if_pos hs2]; (try rfl))
            have hcl : ((bpT m f (ii + 1) (b5bY x j b e)).M j).cells = ((bpT m f ii x).M j).cells := by show (bpMb (if j = j then (BO.mk 4 (mget x.S.M (key 5 0 0)) 1) else x.O j)).cells = (bpMb (x.O j)).cells; rw [if_pos rfl, ho]; (try rfl)
            have hne : ∀ i, i ≠ j → (bpT m f (ii + 1) (b5bY x j b e)).M i = (bpT m f ii x).M i := fun i hi => by show bpMb (if i = j then _ else x.O i) = _; rw [if_neg hi]; rfl
            refine fam_norm (F := bpF) (s0 := bpU m f q h) (X := Nat × GX BO) (T := fun z => bpT m f z.1 z.2) (x := (ii, x)) (ii + 1, (b5bY x j b e)) j true true (b5b_1 ..) (ob_cons rfl (ob_cons rfl (ob_cons rfl (ob_cons rfl (ob_cons rfl (ob_cons rfl (ob_cons ?_ (ob_cons rfl (ob_cons ?_ (ob_cons ?_ (ob_cons rfl (ob_cons rfl (ob_cons ?_ (ob_cons rfl (ob_cons ?_ (ob_cons ?_ (ob_cons rfl (ob_cons rfl (ob_cons rfl (ob_cons rfl (ob_cons rfl (ob_cons (Nat.le_refl _) (ob_cons (.inl ⟨rfl, rfl⟩) (ob_cons rfl (ob_cons (Nat.le_refl _) (ob_cons (.inl ⟨rfl, rfl⟩) (ob_cons ?_ (ob_cons rfl (ob_cons rfl (ob_cons rfl (ob_cons rfl (ob_cons ?_ (ob_cons ?_ (ob_cons ?_ (ob_cons ?_ (ob_cons rfl (ob_cons ?_ (ob_cons rfl (ob_cons ?_ (ob_cons rfl (ob_cons rfl (ob_cons rfl (ob_cons rfl (ob_cons ?_ (ob_cons ?_ (ob_cons ?_ (ob_cons rfl (ob_cons ?_ (ob_cons ?_ (ob_cons ?_ (ob_cons ?_ (ob_cons ?_ (ob_cons ?_ (ob_cons ?_ (ob_cons (Nat.le_refl _) (ob_cons ?_ (ob_cons (Int.le_refl _) (ob_cons (by decide) (ob_cons (Int.le_refl _) (ob_cons (by decide) (ob_cons ?_ (ob_cons ?_ (ob_cons ?_ (ob_cons ?_ (ob_cons ?_ (ob_cons ?_ (ob_cons ?_ (ob_cons ?_ (ob_cons ?_ (ob_cons ?_ (ob_cons ?_ (ob_cons ?_ (ob_cons ?_ ob_nil))))))))))))))))))))))))))))))))))))))))))))))))))))))))))))))))))))))))) (fun _ => hjn) (by show bpMb (x.O j) = _; rw [ho]) hok (by show m - (ii + 1) < m - ii; omega) (by show bpMb (if j = j then _ else _) = _; rw [if_pos rfl]) (.inl ⟨rfl, hjn⟩) (fun i hi hne => ⟨hi, (by show bpMb (if i = j then _ else _) = bpMb _; rw [if_neg hne])⟩)
            · exact rfl
            · assumption
            · exact rfl
            · assumption
            · exact Nat.le_refl _
            · exact fg_do (F := bpF) rfl rfl (fun i => bpMb_f _) rfl (M := (bpT m f ii x).M) (j := j) hcl hne rfl
            · exact rfl
            · exact rfl
            · exact rfl
            · exact rfl
            · exact fun _ => rfl
            · exact rfl
            · exact rfl
            · exact rfl
            · exact rfl
            · exact rfl
            · exact Nat.le_refl _
            · exact .inl ⟨rfl, rfl⟩
            · assumption
            · exact decide_eq_true hs2
            · exact decide_eq_false hs
            · (rw [hwd]; exact decide_eq_true hs2)
            · (rw [hwd]; exact decide_eq_false hs)
            · (simp [Nat.blt_eq]; omega)
            · assumption
            · assumption
            · assumption
            · assumption
            · assumption
            · assumption
            · assumption
            · exact eqF hk2n
            · exact eqF hk1
            · exact eqF hk0
            · (simp [Nat.blt_eq]; omega)
            · (simp [Nat.blt_eq]; omega)
            · (simp [Nat.blt_eq]; omega)
          ·
            have hok := hnx (b5cY x j b e) (by rw [hgo]; unfold bpDo boO boS boR; (try simp only []); rw [show boB x.S = mget x.S.M (key 5 0 0) from rfl, if_neg hs, if_neg hs2]; (try rfl))
            have hcl : ((bpT m f (ii + 1) (b5cY x j b e)).M j).cells = ((bpT m f ii x).M j).cells := by show (bpMb (if j = j then (BO.mk 6 (mget x.S.M (key 5 0 0)) e) else x.O j)).cells = (bpMb (x.O j)).cells; rw [if_pos rfl, ho]; (try rfl)
            have hne : ∀ i, i ≠ j → (bpT m f (ii + 1) (b5cY x j b e)).M i = (bpT m f ii x).M i := fun i hi => by show bpMb (if i = j then _ else x.O i) = _; rw [if_neg hi]; rfl
            refine fam_norm (F := bpF) (s0 := bpU m f q h) (X := Nat × GX BO) (T := fun z => bpT m f z.1 z.2) (x := (ii, x)) (ii + 1, (b5cY x j b e)) j true true (b5c_1 ..) (ob_cons rfl (ob_cons rfl (ob_cons rfl (ob_cons rfl (ob_cons rfl (ob_cons rfl (ob_cons ?_ (ob_cons rfl (ob_cons ?_ (ob_cons ?_ (ob_cons ?_ (ob_cons ?_ (ob_cons ?_ (ob_cons rfl (ob_cons ?_ (ob_cons ?_ (ob_cons rfl (ob_cons rfl (ob_cons rfl (ob_cons rfl (ob_cons rfl (ob_cons (Nat.le_refl _) (ob_cons (.inl ⟨rfl, rfl⟩) (ob_cons rfl (ob_cons (Nat.le_refl _) (ob_cons (.inl ⟨rfl, rfl⟩) (ob_cons ?_ (ob_cons rfl (ob_cons rfl (ob_cons rfl (ob_cons rfl (ob_cons ?_ (ob_cons ?_ (ob_cons ?_ (ob_cons ?_ (ob_cons rfl (ob_cons ?_ (ob_cons rfl (ob_cons ?_ (ob_cons rfl (ob_cons rfl (ob_cons rfl (ob_cons rfl (ob_cons ?_ (ob_cons ?_ (ob_cons ?_ (ob_cons rfl (ob_cons ?_ (ob_cons ?_ (ob_cons ?_ (ob_cons ?_ (ob_cons ?_ (ob_cons ?_ (ob_cons ?_ (ob_cons ?_ (ob_cons (Nat.le_refl _) (ob_cons ?_ (ob_cons (Int.le_refl _) (ob_cons (by decide) (ob_cons (Int.le_refl _) (ob_cons (by decide) (ob_cons ?_ (ob_cons ?_ (ob_cons ?_ (ob_cons ?_ (ob_cons ?_ (ob_cons ?_ (ob_cons ?_ (ob_cons ?_ (ob_cons ?_ (ob_cons ?_ (ob_cons ?_ (ob_cons ?_ (ob_cons ?_ ob_nil)))))))))))))))))))))))))))))))))))))))))))))))))))))))))))))))))))))))))) (fun _ => hjn) (by show bpMb (x.O j) = _; rw [ho]) hok (by show m - (ii + 1) < m - ii; omega) (by show bpMb (if j = j then _ else _) = _; rw [if_pos rfl]) (.inl ⟨rfl, hjn⟩) (fun i hi hne => ⟨hi, (by show bpMb (if i = j then _ else _) = bpMb _; rw [if_neg hne])⟩)
            · exact rfl
            · assumption
            · exact rfl
            · exact rfl
            · exact rfl
            · assumption
            · exact Nat.le_refl _
            · exact fg_do (F := bpF) rfl rfl (fun i => bpMb_f _) rfl (M := (bpT m f ii x).M) (j := j) hcl hne rfl
            · exact rfl
            · exact rfl
            · exact rfl
            · exact rfl
            · exact fun _ => rfl
            · exact rfl
            · exact rfl
            · exact rfl
            · exact rfl
            · exact rfl
            · exact Nat.le_refl _
            · exact .inl ⟨rfl, rfl⟩
            · assumption
            · (simp; done)
            · exact decide_eq_false hs2
            · exact decide_eq_false hs
            · (rw [hwd]; exact decide_eq_false hs2)
            · (rw [hwd]; exact decide_eq_false hs)
            · (simp [Nat.blt_eq]; omega)
            · assumption
            · assumption
            · assumption
            · assumption
            · assumption
            · assumption
            · assumption
            · exact eqF hk2n
            · exact eqF hk1
            · exact eqF hk0
            · (simp [Nat.blt_eq]; omega)
            · (simp [Nat.blt_eq]; omega)
            · (simp [Nat.blt_eq]; omega)
      | 6, ho, hl, hoo, hbS, hgo =>
        obtain ⟨-, hob, hol⟩ := hoo
        have q0 : lrow fam0 2 (bpT m f ii x).M j (0 + ((avInt (f (0 + ii) 1)).tmod (IntKind.u64.wrap (Int.ofNat x.n))).toNat) 0 = AV.nilp := (hl 0).trans rfl
        have q1 : lrow fam0 2 (bpT m f ii x).M j (0 + ((avInt (f (0 + ii) 1)).tmod (IntKind.u64.wrap (Int.ofNat x.n))).toNat) 1 = AV.ptr 900 0 0 := (hl 1).trans rfl
        have q2 : lrow fam0 2 (bpT m f ii x).M j (0 + ((avInt (f (0 + ii) 1)).tmod (IntKind.u64.wrap (Int.ofNat x.n))).toNat) 2 = AV.ptr 901 0 0 := (hl 2).trans rfl
        clear hl
        have hl2 := hol (Nat.le_of_ble_eq_true rfl)
        have hl2 : 2 ≤ b ∧ b ≤ 4 := hl2
        have hj := bo_j hl2
        have hcd : dCasD (xD x) 7 (IntKind.i64.wrap (IntKind.i64.wrap b - 1)) 0 0 = casD x.S.M 7 (IntKind.i64.wrap (IntKind.u64.wrap (b - 1))) 0 0 := by rw [hj]; exact (hb.agr.casD _ _ _ _).symm
        by_cases hc : casD x.S.M 7 (IntKind.i64.wrap (IntKind.u64.wrap (b - 1))) 0 0 = true
        ·
          have hok := hnx (b6aY x j b e) (by rw [hgo]; unfold bpDo boO boS boR; (try simp only []); rw [if_pos hc]; (try rfl))
          have hcl : ((bpT m f (ii + 1) (b6aY x j b e)).M j).cells = ((bpT m f ii x).M j).cells := by show (bpMb (if j = j then (BO.mk 7 b e) else x.O j)).cells = (bpMb (x.O j)).cells; rw [if_pos rfl, ho]; (try rfl)
          have hne : ∀ i, i ≠ j → (bpT m f (ii + 1) (b6aY x j b e)).M i = (bpT m f ii x).M i := fun i hi => by show bpMb (if i = j then _ else x.O i) = _; rw [if_neg hi]; rfl
          refine fam_norm (F := bpF) (s0 := bpU m f q h) (X := Nat × GX BO) (T := fun z => bpT m f z.1 z.2) (x := (ii, x)) (ii + 1, (b6aY x j b e)) j true true (b6a_1 ..) (ob_cons rfl (ob_cons rfl (ob_cons rfl (ob_cons rfl (ob_cons rfl (ob_cons rfl (ob_cons ?_ (ob_cons rfl (ob_cons ?_ (ob_cons ?_ (ob_cons ?_ (ob_cons ?_ (ob_cons ?_ (ob_cons rfl (ob_cons ?_ (ob_cons ?_ (ob_cons rfl (ob_cons rfl (ob_cons rfl (ob_cons rfl (ob_cons rfl (ob_cons (Nat.le_refl _) (ob_cons (.inl ⟨rfl, rfl⟩) (ob_cons rfl (ob_cons (Nat.le_refl _) (ob_cons (.inl ⟨rfl, rfl⟩) (ob_cons ?_ (ob_cons rfl (ob_cons rfl (ob_cons ?_ (ob_cons rfl (ob_cons ?_ (ob_cons ?_ (ob_cons ?_ (ob_cons ?_ (ob_cons rfl (ob_cons ?_ (ob_cons rfl (ob_cons ?_ (ob_cons rfl (ob_cons rfl (ob_cons ?_ (ob_cons rfl (ob_cons ?_ (ob_cons ?_ (ob_cons ?_ (ob_cons rfl (ob_cons ?_ (ob_cons ?_ (ob_cons ?_ (ob_cons ?_ (ob_cons ?_ (ob_cons (by decide) (ob_cons (tabIs_self _) (ob_cons (Int.le_refl _) (ob_cons (by decide) (ob_cons (tabIs_self _) (ob_cons (Int.le_refl _) (ob_cons (by decide) (ob_cons ?_ (ob_cons (Nat.le_refl _) (ob_cons ?_ (ob_cons (by decide) (ob_cons (Int.le_refl _) (ob_cons (by decide) (ob_cons (Int.le_refl _) (ob_cons (by decide) (ob_cons ?_ (ob_cons ?_ (ob_cons ?_ (ob_cons ?_ (ob_cons ?_ (ob_cons ?_ (ob_cons ?_ (ob_cons ?_ (ob_cons ?_ (ob_cons ?_ (ob_cons ?_ (ob_cons ?_ (ob_cons ?_ ob_nil)))))))))))))))))))))))))))))))))))))))))))))))))))))))))))))))))))))))))))))))) (fun _ => hjn) (by show bpMb (x.O j) = _; rw [ho]) hok (by show m - (ii + 1) < m - ii; omega) (by show bpMb (if j = j then _ else _) = _; rw [if_pos rfl]) (.inl ⟨rfl, hjn⟩) (fun i hi hne => ⟨hi, (by show bpMb (if i = j then _ else _) = bpMb _; rw [if_neg hne])⟩)
          · exact rfl
          · assumption
          · exact rfl
          · exact rfl
          · exact rfl
          · exact rfl
          · exact Nat.le_refl _
          · exact fg_do (F := bpF) rfl rfl (fun i => bpMb_f _) rfl (M := (bpT m f ii x).M) (j := j) hcl hne rfl
          · exact rfl
          · exact rfl
          · exact rfl
          · exact rfl
          · exact rfl
          · exact fun _ => rfl
          · exact rfl
          · exact rfl
          · exact rfl
          · exact rfl
          · exact rfl
          · exact rfl
          · exact Nat.le_refl _
          · exact .inl ⟨rfl, rfl⟩
          · assumption
          · (simp; done)
          · (rw [hc]; rfl)
          · (show (!dCasD (xD x) 7 (IntKind.i64.wrap (IntKind.i64.wrap b - 1)) 0 0) = _; rw [hcd, hc]; rfl)
          · (simp [Nat.blt_eq]; omega)
          · assumption
          · assumption
          · assumption
          · assumption
          · assumption
          · assumption
          · assumption
          · exact eqF hk2n
          · exact eqF hk1
          · exact eqF hk0
          · (simp [Nat.blt_eq]; omega)
          · (simp [Nat.blt_eq]; omega)
          · (simp [Nat.blt_eq]; omega)
        ·
          have hcf : casD x.S.M 7 (IntKind.i64.wrap (IntKind.u64.wrap (b - 1))) 0 0 = false := by simpa using hc
          have hok := hnx (b6bY x j b e) (by rw [hgo]; unfold bpDo boO boS boR; (try simp only []); rw [if_neg hc]; (try rfl))
          have hcl : ((bpT m f (ii + 1) (b6bY x j b e)).M j).cells = ((bpT m f ii x).M j).cells := by show (bpMb (if j = j then (BO.mk 4 b 7) else x.O j)).cells = (bpMb (x.O j)).cells; rw [if_pos rfl, ho]; (try rfl)
          have hne : ∀ i, i ≠ j → (bpT m f (ii + 1) (b6bY x j b e)).M i = (bpT m f ii x).M i := fun i hi => by show bpMb (if i = j then _ else x.O i) = _; rw [if_neg hi]; rfl
          refine fam_norm (F := bpF) (s0 := bpU m f q h) (X := Nat × GX BO) (T := fun z => bpT m f z.1 z.2) (x := (ii, x)) (ii + 1, (b6bY x j b e)) j true true (b6b_1 ..) (ob_cons rfl (ob_cons rfl (ob_cons rfl (ob_cons rfl (ob_cons rfl (ob_cons rfl (ob_cons ?_ (ob_cons rfl (ob_cons ?_ (ob_cons ?_ (ob_cons rfl (ob_cons rfl (ob_cons ?_ (ob_cons rfl (ob_cons ?_ (ob_cons ?_ (ob_cons rfl (ob_cons rfl (ob_cons rfl (ob_cons rfl (ob_cons rfl (ob_cons (Nat.le_refl _) (ob_cons (.inl ⟨rfl, rfl⟩) (ob_cons rfl (ob_cons (Nat.le_refl _) (ob_cons (.inl ⟨rfl, rfl⟩) (ob_cons ?_ (ob_cons rfl (ob_cons rfl (ob_cons ?_ (ob_cons rfl (ob_cons ?_ (ob_cons ?_ (ob_cons ?_ (ob_cons ?_ (ob_cons rfl (ob_cons ?_ (ob_cons rfl (ob_cons ?_ (ob_cons rfl (ob_cons rfl (ob_cons ?_ (ob_cons rfl (ob_cons ?_ (ob_cons ?_ (ob_cons ?_ (ob_cons rfl (ob_cons ?_ (ob_cons ?_ (ob_cons ?_ (ob_cons ?_ (ob_cons (by decide) (ob_cons (tabIs_self _) (ob_cons (Int.le_refl _) (ob_cons (by decide) (ob_cons (tabIs_self _) (ob_cons (Int.le_refl _) (ob_cons (by decide) (ob_cons ?_ (ob_cons (Nat.le_refl _) (ob_cons ?_ (ob_cons (by decide) (ob_cons (Int.le_refl _) (ob_cons (by decide) (ob_cons (Int.le_refl _) (ob_cons (by decide) (ob_cons ?_ (ob_cons ?_ (ob_cons ?_ (ob_cons ?_ (ob_cons ?_ (ob_cons ?_ (ob_cons ?_ (ob_cons ?_ (ob_cons ?_ (ob_cons ?_ (ob_cons ?_ (ob_cons ?_ (ob_cons ?_ ob_nil))))))))))))))))))))))))))))))))))))))))))))))))))))))))))))))))))))))))))))))) (fun _ => hjn) (by show bpMb (x.O j) = _; rw [ho]) hok (by show m - (ii + 1) < m - ii; omega) (by show bpMb (if j = j then _ else _) = _; rw [if_pos rfl]) (.inl ⟨rfl, hjn⟩) (fun i hi hne => ⟨hi, (by show bpMb (if i = j then _ else _) = bpMb _; rw [if_neg hne])⟩)
          · exact rfl
          · assumption
          · exact rfl
          · exact rfl
          · exact Nat.le_refl _
          · exact fg_do (F := bpF) rfl rfl (fun i => bpMb_f _) rfl (M := (bpT m f ii x).M) (j := j) hcl hne rfl
          · exact rfl
          · exact rfl
          · exact rfl
          · exact rfl
          · exact rfl
          · exact fun _ => rfl
          · exact rfl
          · exact rfl
          · exact rfl
          · exact rfl
          · exact rfl
          · exact rfl
          · exact Nat.le_refl _
          · exact .inl ⟨rfl, rfl⟩
          · assumption
          · (rw [hcf]; rfl)
          · (show (!dCasD (xD x) 7 (IntKind.i64.wrap (IntKind.i64.wrap b - 1)) 0 0) = _; rw [hcd, hcf]; rfl)
          · (simp [Nat.blt_eq]; omega)
          · assumption
          · assumption
          · assumption
          · assumption
          · assumption
          · assumption
          · assumption
          · exact eqF hk2n
          · exact eqF hk1
          · exact eqF hk0
          · (simp [Nat.blt_eq]; omega)
          · (simp [Nat.blt_eq]; omega)
          · (simp [Nat.blt_eq]; omega)
      | 7, ho, hl, hoo, hbS, hgo =>
        obtain ⟨-, hob, hol⟩ := hoo
        have q0 : lrow fam0 2 (bpT m f ii x).M j (0 + ((avInt (f (0 + ii) 1)).tmod (IntKind.u64.wrap (Int.ofNat x.n))).toNat) 0 = AV.nilp := (hl 0).trans rfl
        have q1 : lrow fam0 2 (bpT m f ii x).M j (0 + ((avInt (f (0 + ii) 1)).tmod (IntKind.u64.wrap (Int.ofNat x.n))).toNat) 1 = AV.ptr 900 0 0 := (hl 1).trans rfl
        have q2 : lrow fam0 2 (bpT m f ii x).M j (0 + ((avInt (f (0 + ii) 1)).tmod (IntKind.u64.wrap (Int.ofNat x.n))).toNat) 2 = AV.ptr 901 0 0 := (hl 2).trans rfl
        clear hl
        have hl2 := hol (Nat.le_of_ble_eq_true rfl)
        have hl2 : 2 ≤ b ∧ b ≤ 4 := hl2
        have hj := bo_j hl2
        have hcd : dCasD (xD x) 5 0 0 b = casD x.S.M 5 0 0 b := (hb.agr.casD _ _ _ _).symm
        by_cases hc : casD x.S.M 5 0 0 b = true
        ·
          have hok := hnx (b7aY x j b e) (by rw [hgo]; unfold bpDo boO boS boR; (try simp only []); rw [if_pos hc]; (try rfl))
          have hcl : ((bpT m f (ii + 1) (b7aY x j b e)).M j).cells = ((bpT m f ii x).M j).cells := by show (bpMb (if j = j then (BO.mk 4 b 0) else x.O j)).cells = (bpMb (x.O j)).cells; rw [if_pos rfl, ho]; (try rfl)
          have hne : ∀ i, i ≠ j → (bpT m f (ii + 1) (b7aY x j b e)).M i = (bpT m f ii x).M i := fun i hi => by show bpMb (if i = j then _ else x.O i) = _; rw [if_neg hi]; rfl
          refine fam_norm (F := bpF) (s0 := bpU m f q h) (X := Nat × GX BO) (T := fun z => bpT m f z.1 z.2) (x := (ii, x)) (ii + 1, (b7aY x j b e)) j true true (b7a_1 ..) (ob_cons rfl (ob_cons rfl (ob_cons rfl (ob_cons rfl (ob_cons rfl (ob_cons rfl (ob_cons ?_ (ob_cons rfl (ob_cons ?_ (ob_cons ?_ (ob_cons rfl (ob_cons rfl (ob_cons ?_ (ob_cons rfl (ob_cons ?_ (ob_cons ?_ (ob_cons rfl (ob_cons rfl (ob_cons rfl (ob_cons rfl (ob_cons rfl (ob_cons (Nat.le_refl _) (ob_cons (.inl ⟨rfl, rfl⟩) (ob_cons rfl (ob_cons (Nat.le_refl _) (ob_cons (.inl ⟨rfl, rfl⟩) (ob_cons ?_ (ob_cons rfl (ob_cons rfl (ob_cons rfl (ob_cons rfl (ob_cons ?_ (ob_cons ?_ (ob_cons ?_ (ob_cons ?_ (ob_cons rfl (ob_cons ?_ (ob_cons rfl (ob_cons ?_ (ob_cons rfl (ob_cons rfl (ob_cons rfl (ob_cons rfl (ob_cons ?_ (ob_cons ?_ (ob_cons ?_ (ob_cons rfl (ob_cons ?_ (ob_cons ?_ (ob_cons ?_ (ob_cons ?_ (ob_cons (by decide) (ob_cons ?_ (ob_cons (Nat.le_refl _) (ob_cons ?_ (ob_cons (by decide) (ob_cons (Int.le_refl _) (ob_cons (by decide) (ob_cons (Int.le_refl _) (ob_cons (by decide) (ob_cons ?_ (ob_cons ?_ (ob_cons ?_ (ob_cons ?_ (ob_cons ?_ (ob_cons ?_ (ob_cons ?_ (ob_cons ?_ (ob_cons ?_ (ob_cons ?_ (ob_cons ?_ (ob_cons ?_ (ob_cons ?_ ob_nil))))))))))))))))))))))))))))))))))))))))))))))))))))))))))))))))))))))))) (fun _ => hjn) (by show bpMb (x.O j) = _; rw [ho]) hok (by show m - (ii + 1) < m - ii; omega) (by show bpMb (if j = j then _ else _) = _; rw [if_pos rfl]) (.inl ⟨rfl, hjn⟩) (fun i hi hne => ⟨hi, (by show bpMb (if i = j then _ else _) = bpMb _; rw [if_neg hne])⟩)
          · exact rfl
          · assumption
          · exact rfl
          · exact rfl
          · exact Nat.le_refl _
          · exact fg_do (F := bpF) rfl rfl (fun i => bpMb_f _) rfl (M := (bpT m f ii x).M) (j := j) hcl hne rfl
          · exact rfl
          · exact rfl
          · exact rfl
          · exact rfl
          · exact fun _ => rfl
          · exact rfl
          · exact rfl
          · exact rfl
          · exact rfl
          · exact rfl
          · exact Nat.le_refl _
          · exact .inl ⟨rfl, rfl⟩
          · assumption
          · assumption
          · (rw [hcd]; exact hc)
          · (simp [Nat.blt_eq]; omega)
          · assumption
          · assumption
          · assumption
          · assumption
          · assumption
          · assumption
          · assumption
          · exact eqF hk2n
          · exact eqF hk1
          · exact eqF hk0
          · (simp [Nat.blt_eq]; omega)
          · (simp [Nat.blt_eq]; omega)
          · (simp [Nat.blt_eq]; omega)
        ·
          have hcf : casD x.S.M 5 0 0 b = false := by simpa using hc
          have hok := hnx (b7bY x j b e) (by rw [hgo]; unfold bpDo boO boS boR; (try simp only []); rw [if_neg hc]; (try rfl))
          have hcl : ((bpT m f (ii + 1) (b7bY x j b e)).M j).cells = ((bpT m f ii x).M j).cells := by show (bpMb (if j = j then (BO.mk 8 b e) else x.O j)).cells = (bpMb (x.O j)).cells; rw [if_pos rfl, ho]; (try rfl)
          have hne : ∀ i, i ≠ j → (bpT m f (ii + 1) (b7bY x j b e)).M i = (bpT m f ii x).M i := fun i hi => by show bpMb (if i = j then _ else x.O i) = _; rw [if_neg hi]; rfl
          refine fam_norm (F := bpF) (s0 := bpU m f q h) (X := Nat × GX BO) (T := fun z => bpT m f z.1 z.2) (x := (ii, x)) (ii + 1, (b7bY x j b e)) j true true (b7b_1 ..) (ob_cons rfl (ob_cons rfl (ob_cons rfl (ob_cons rfl (ob_cons rfl (ob_cons rfl (ob_cons ?_ (ob_cons rfl (ob_cons ?_ (ob_cons ?_ (ob_cons ?_ (ob_cons ?_ (ob_cons ?_ (ob_cons rfl (ob_cons ?_ (ob_cons ?_ (ob_cons rfl (ob_cons rfl (ob_cons rfl (ob_cons rfl (ob_cons rfl (ob_cons (Nat.le_refl _) (ob_cons (.inl ⟨rfl, rfl⟩) (ob_cons rfl (ob_cons (Nat.le_refl _) (ob_cons (.inl ⟨rfl, rfl⟩) (ob_cons ?_ (ob_cons rfl (ob_cons rfl (ob_cons rfl (ob_cons rfl (ob_cons ?_ (ob_cons ?_ (ob_cons ?_ (ob_cons ?_ (ob_cons rfl (ob_cons ?_ (ob_cons rfl (ob_cons ?_ (ob_cons rfl (ob_cons rfl (ob_cons rfl (ob_cons rfl (ob_cons ?_ (ob_cons ?_ (ob_cons ?_ (ob_cons rfl (ob_cons ?_ (ob_cons ?_ (ob_cons ?_ (ob_cons ?_ (ob_cons ?_ (ob_cons (by decide) (ob_cons ?_ (ob_cons (Nat.le_refl _) (ob_cons ?_ (ob_cons (by decide) (ob_cons (Int.le_refl _) (ob_cons (by decide) (ob_cons (Int.le_refl _) (ob_cons (by decide) (ob_cons ?_ (ob_cons ?_ (ob_cons ?_ (ob_cons ?_ (ob_cons ?_ (ob_cons ?_ (ob_cons ?_ (ob_cons ?_ (ob_cons ?_ (ob_cons ?_ (ob_cons ?_ (ob_cons ?_ (ob_cons ?_ ob_nil)))))))))))))))))))))))))))))))))))))))))))))))))))))))))))))))))))))))))) (fun _ => hjn) (by show bpMb (x.O j) = _; rw [ho]) hok (by show m - (ii + 1) < m - ii; omega) (by show bpMb (if j = j then _ else _) = _; rw [if_pos rfl]) (.inl ⟨rfl, hjn⟩) (fun i hi hne => ⟨hi, (by show bpMb (if i = j then _ else _) = bpMb _; rw [if_neg hne])⟩)
          · exact rfl
          · assumption
          · exact rfl
          · exact rfl
          · exact rfl
          · exact rfl
          · exact Nat.le_refl _
          · exact fg_do (F := bpF) rfl rfl (fun i => bpMb_f _) rfl (M := (bpT m f ii x).M) (j := j) hcl hne rfl
          · exact rfl
          · exact rfl
          · exact rfl
          · exact rfl
          · exact fun _ => rfl
          · exact rfl
          · exact rfl
          · exact rfl
          · exact rfl
          · exact rfl
          · exact Nat.le_refl _
          · exact .inl ⟨rfl, rfl⟩
          · assumption
          · (simp; done)
          · assumption
          · (rw [hcd]; exact hcf)
          · (simp [Nat.blt_eq]; omega)
          · assumption
          · assumption
          · assumption
          · assumption
          · assumption
          · assumption
          · assumption
          · exact eqF hk2n
          · exact eqF hk1
          · exact eqF hk0
          · (simp [Nat.blt_eq]; omega)
          · (simp [Nat.blt_eq]; omega)
          · (simp [Nat.blt_eq]; omega)
      | 8, ho, hl, hoo, hbS, hgo =>
        obtain ⟨-, hob, hol⟩ := hoo
        have q0 : lrow fam0 2 (bpT m f ii x).M j (0 + ((avInt (f (0 + ii) 1)).tmod (IntKind.u64.wrap (Int.ofNat x.n))).toNat) 0 = AV.nilp := (hl 0).trans rfl
        have q1 : lrow fam0 2 (bpT m f ii x).M j (0 + ((avInt (f (0 + ii) 1)).tmod (IntKind.u64.wrap (Int.ofNat x.n))).toNat) 1 = AV.ptr 900 0 0 := (hl 1).trans rfl
        have q2 : lrow fam0 2 (bpT m f ii x).M j (0 + ((avInt (f (0 + ii) 1)).tmod (IntKind.u64.wrap (Int.ofNat x.n))).toNat) 2 = AV.ptr 901 0 0 := (hl 2).trans rfl
        clear hl
        have hl2 := hol (Nat.le_of_ble_eq_true rfl)
        have hl2 : 2 ≤ b ∧ b ≤ 4 := hl2
        have hj := bo_j hl2
        have hok := hnx (b8Y x j b e) (by rw [hgo]; unfold bpDo boO boS boR; (try simp only []); (try rfl))
        have hcl : ((bpT m f (ii + 1) (b8Y x j b e)).M j).cells = ((bpT m f ii x).M j).cells := by show (bpMb (if j = j then (BO.mk 4 b 7) else x.O j)).cells = (bpMb (x.O j)).cells; rw [if_pos rfl, ho]; (try rfl)
        have hne : ∀ i, i ≠ j → (bpT m f (ii + 1) (b8Y x j b e)).M i = (bpT m f ii x).M i := fun i hi => by show bpMb (if i = j then _ else x.O i) = _; rw [if_neg hi]; rfl
        refine fam_norm (F := bpF) (s0 := bpU m f q h) (X := Nat × GX BO) (T := fun z => bpT m f z.1 z.2) (x := (ii, x)) (ii + 1, (b8Y x j b e)) j true true (b8_1 ..) (ob_cons rfl (ob_cons rfl (ob_cons rfl (ob_cons rfl (ob_cons rfl (ob_cons rfl (ob_cons ?_ (ob_cons rfl (ob_cons ?_ (ob_cons ?_ (ob_cons rfl (ob_cons rfl (ob_cons ?_ (ob_cons rfl (ob_cons ?_ (ob_cons ?_ (ob_cons rfl (ob_cons rfl (ob_cons rfl (ob_cons rfl (ob_cons rfl (ob_cons (Nat.le_refl _) (ob_cons (.inl ⟨rfl, rfl⟩) (ob_cons rfl (ob_cons (Nat.le_refl _) (ob_cons (.inl ⟨rfl, rfl⟩) (ob_cons ?_ (ob_cons rfl (ob_cons rfl (ob_cons ?_ (ob_cons rfl (ob_cons ?_ (ob_cons ?_ (ob_cons ?_ (ob_cons ?_ (ob_cons rfl (ob_cons ?_ (ob_cons rfl (ob_cons ?_ (ob_cons rfl (ob_cons rfl (ob_cons ?_ (ob_cons rfl (ob_cons ?_ (ob_cons ?_ (ob_cons ?_ (ob_cons rfl (ob_cons ?_ (ob_cons ?_ (ob_cons ?_ (ob_cons (by decide) (ob_cons (tabIs_self _) (ob_cons (Int.le_refl _) (ob_cons (by decide) (ob_cons (tabIs_self _) (ob_cons (Int.le_refl _) (ob_cons (by decide) (ob_cons (Nat.le_refl _) (ob_cons ?_ (ob_cons (by decide) (ob_cons (Int.le_refl _) (ob_cons (by decide) (ob_cons (Int.le_refl _) (ob_cons (by decide) (ob_cons ?_ (ob_cons ?_ (ob_cons ?_ (ob_cons ?_ (ob_cons ?_ (ob_cons ?_ (ob_cons ?_ (ob_cons ?_ (ob_cons ?_ (ob_cons ?_ (ob_cons ?_ (ob_cons ?_ (ob_cons ?_ ob_nil))))))))))))))))))))))))))))))))))))))))))))))))))))))))))))))))))))))))))))) (fun _ => hjn) (by show bpMb (x.O j) = _; rw [ho]) hok (by show m - (ii + 1) < m - ii; omega) (by show bpMb (if j = j then _ else _) = _; rw [if_pos rfl]) (.inl ⟨rfl, hjn⟩) (fun i hi hne => ⟨hi, (by show bpMb (if i = j then _ else _) = bpMb _; rw [if_neg hne])⟩)
        · exact rfl
        · assumption
        · exact rfl
        · exact rfl
        · exact Nat.le_refl _
        · exact fg_do (F := bpF) rfl rfl (fun i => bpMb_f _) rfl (M := (bpT m f ii x).M) (j := j) hcl hne rfl
        · exact rfl
        · exact rfl
        · exact rfl
        · exact rfl
        · exact rfl
        · exact fun _ => rfl
        · exact rfl
        · exact rfl
        · exact rfl
        · exact rfl
        · exact rfl
        · exact rfl
        · exact Nat.le_refl _
        · exact .inl ⟨rfl, rfl⟩
        · assumption
        · (simp [Nat.blt_eq]; omega)
        · assumption
        · assumption
        · assumption
        · assumption
        · assumption
        · assumption
        · assumption
        · exact eqF hk2n
        · exact eqF hk1
        · exact eqF hk0
        · (simp [Nat.blt_eq]; omega)
        · (simp [Nat.blt_eq]; omega)
        · (simp [Nat.blt_eq]; omega)
      | k + 9, ho, hl, hoo, hbS, hgo => exact absurd hoo.t (by show ¬ k + 9 ≤ 8; omega)
    · obtain rfl : m = ii := by omega
      rw [← hx]
      refine fam_exit (F := bpF) (s0 := bpU m f q h) (X := Nat × GX BO) (T := fun z => bpT m f z.1 z.2) (x := (m, x)) x.n false (bpe_1 ..) (by simp) (ob_cons rfl (ob_cons rfl (ob_cons rfl (ob_cons rfl (ob_cons rfl (ob_cons rfl (ob_cons rfl (ob_cons rfl (ob_cons rfl (ob_cons rfl (ob_cons (Nat.le_refl _) (ob_cons (.inl ⟨rfl, rfl⟩) (ob_cons rfl (ob_cons (Nat.le_refl _) (ob_cons (.inl ⟨rfl, rfl⟩) (ob_cons rfl (ob_cons rfl (ob_cons rfl (ob_cons rfl (ob_cons rfl (ob_cons rfl (ob_cons rfl (ob_cons rfl (ob_cons (fun _ => rfl) (ob_cons rfl (ob_cons rfl (ob_cons rfl (ob_cons rfl (ob_cons rfl (ob_cons rfl (ob_cons rfl (ob_cons rfl (ob_cons rfl (ob_cons rfl (ob_cons rfl (ob_cons rfl (ob_cons (Nat.le_refl _) (ob_cons (.inl ⟨rfl, rfl⟩) (ob_cons ?_ ob_nil))))))))))))))))))))))))))))))))))))))) (fun h => by cases h) rfl
      · (simp; done)
end Go.Proofs.YtlpcdjhojfopjaaGreatDoor
