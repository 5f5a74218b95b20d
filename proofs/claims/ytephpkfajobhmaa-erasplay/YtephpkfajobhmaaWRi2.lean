/-
  ErasPlay: its loop.
-/
import Derived.Test.YtephpkfajobhmaaWRgDef
set_option linter.unusedSimpArgs false
set_option linter.unusedVariables false
namespace Go.Proofs.Ytephpkfajobhmaa
open Go.Ev
theorem rg0_1 (m : Nat) (f : Nat → Nat → AV) (q : Nat) (h : Nat → Nat → AV) (ii : Nat) (x : RT) : roundB ERg 3000 rgL (h0F rgF (rgU m f q h)) [(8, Src.nm 1005), (9, Src.nm 9), (900, Src.nm 1003), (901, Src.nm 1001)] (locSt rgF (rgT m f ii x) false (rMb (x.O x.n)) x.n []) [Hint.b true, Hint.l 0] (locSt rgF (rgT m f (ii + 1) (rtAdd x (rNew 0 (avInt (f (0 + ii) 1)) (avInt (f (0 + ii) 2))))) true (rMb (rNew 0 (avInt (f (0 + ii) 1)) (avInt (f (0 + ii) 2)))) x.n []) =
 some (Ex.norm, [(0 : Nat) = 0,
 m = m,
 (none : Option Nat) = none,
 (0 : Nat) = 0,
 (0 : Nat) = 0,
 (0 : Nat) = 0,
 x.n + 1 = (rtAdd x (rNew 0 (avInt (f (0 + ii) 1)) (avInt (f (0 + ii) 2)))).n,
 (none : Option Nat) = none,
 IntKind.i64.wrap (Int.ofNat ii + 1) = Int.ofNat (ii + 1),
 inN (avInt (f (0 + ii) 1)) 3 = (rNew 0 (avInt (f (0 + ii) 1)) (avInt (f (0 + ii) 2))).av,
 avInt (f (0 + ii) 1) = (rNew 0 (avInt (f (0 + ii) 1)) (avInt (f (0 + ii) 2))).th,
 (0 : Int) = 0,
 (0 : Int) = 0,
 avInt (f (0 + ii) 1) = (rNew 0 (avInt (f (0 + ii) 1)) (avInt (f (0 + ii) 2))).th,
 nN 0 (avInt (f (0 + ii) 1)) = rl0 (rNew 0 (avInt (f (0 + ii) 1)) (avInt (f (0 + ii) 2))).av,
 0 = rG0 (rNew 0 (avInt (f (0 + ii) 1)) (avInt (f (0 + ii) 2))).av 0,
 false = (rNew 0 (avInt (f (0 + ii) 1)) (avInt (f (0 + ii) 2))).dn,
 (0 : Int) = 0,
 false = false,
 (rgT m f (ii + 1) (rtAdd x (rNew 0 (avInt (f (0 + ii) 1)) (avInt (f (0 + ii) 2))))).n ≤ x.n + 1,
 ∀ (i : Nat), i < (rgT m f (ii + 1) (rtAdd x (rNew 0 (avInt (f (0 + ii) 1)) (avInt (f (0 + ii) 2))))).n → rowV (CM.mk 8 6703903964971298549787012499102923063739682910296196688861780721860882015036773488400937149083451713845015929093243025426876941405973284973216824503042048 [(8, Src.nm 1005), (9, Src.nm 9), (900, Src.nm 1003), (901, Src.nm 1001)]) rgF.sh 0 (fun j => if i < x.n then lrow 6703903964971298549787012499102923063739682910296196688861780721860882015036773488400937149083451713845015929093243025426876941405973284973216824503042048 2 (rgT m f ii x).M x.n (0 + i) j else rowsOf 5 [AV.ptr 1003 0 0, cellOf (Value.pointer none), cellOf (Value.pointer none), cellOf (Value.pointer none), AV.ptr 1001 0 0] (i - x.n) j) (lrow 6703903964971298549787012499102923063739682910296196688861780721860882015036773488400937149083451713845015929093243025426876941405973284973216824503042048 2 (rgT m f (ii + 1) (rtAdd x (rNew 0 (avInt (f (0 + ii) 1)) (avInt (f (0 + ii) 2))))).M x.n i),
 (0 : Nat) = 0,
 (0 : Nat) = 0,
 (0 : Nat) = 0,
 (0 : Nat) = 0,
 true = true,
 m ≤ m,
 f = f ∧ plainSh arSh = true ∨ ∀ (i : Nat), i < m → rowOb arSh 0 (f i) (f i),
 x.S.st = (rtAdd x (rNew 0 (avInt (f (0 + ii) 1)) (avInt (f (0 + ii) 2)))).S.st,
 x.S.L.c = (rtAdd x (rNew 0 (avInt (f (0 + ii) 1)) (avInt (f (0 + ii) 2)))).S.L.c,
 x.S.L.k = (rtAdd x (rNew 0 (avInt (f (0 + ii) 1)) (avInt (f (0 + ii) 2)))).S.L.k,
 x.S.L.a = (rtAdd x (rNew 0 (avInt (f (0 + ii) 1)) (avInt (f (0 + ii) 2)))).S.L.a,
 x.S.L.f = (rtAdd x (rNew 0 (avInt (f (0 + ii) 1)) (avInt (f (0 + ii) 2)))).S.L.f,
 x.S.L.w = (rtAdd x (rNew 0 (avInt (f (0 + ii) 1)) (avInt (f (0 + ii) 2)))).S.L.w,
 x.S.L.i = (rtAdd x (rNew 0 (avInt (f (0 + ii) 1)) (avInt (f (0 + ii) 2)))).S.L.i,
 x.S.L.d = (rtAdd x (rNew 0 (avInt (f (0 + ii) 1)) (avInt (f (0 + ii) 2)))).S.L.d,
 ∀ (k : List Int), x.S.M k = (rtAdd x (rNew 0 (avInt (f (0 + ii) 1)) (avInt (f (0 + ii) 2)))).S.M k,
 (0 : Nat) = 0,
 x.R.D.n = (rtAdd x (rNew 0 (avInt (f (0 + ii) 1)) (avInt (f (0 + ii) 2)))).R.D.n,
 (none : Option Nat) = none,
 x.R.st = (rtAdd x (rNew 0 (avInt (f (0 + ii) 1)) (avInt (f (0 + ii) 2)))).R.st,
 x.R.L.c = (rtAdd x (rNew 0 (avInt (f (0 + ii) 1)) (avInt (f (0 + ii) 2)))).R.L.c,
 x.R.L.k = (rtAdd x (rNew 0 (avInt (f (0 + ii) 1)) (avInt (f (0 + ii) 2)))).R.L.k,
 x.R.L.a = (rtAdd x (rNew 0 (avInt (f (0 + ii) 1)) (avInt (f (0 + ii) 2)))).R.L.a,
 x.R.L.f = (rtAdd x (rNew 0 (avInt (f (0 + ii) 1)) (avInt (f (0 + ii) 2)))).R.L.f,
 x.R.L.w = (rtAdd x (rNew 0 (avInt (f (0 + ii) 1)) (avInt (f (0 + ii) 2)))).R.L.w,
 x.R.L.i = (rtAdd x (rNew 0 (avInt (f (0 + ii) 1)) (avInt (f (0 + ii) 2)))).R.L.i,
 x.R.L.d = (rtAdd x (rNew 0 (avInt (f (0 + ii) 1)) (avInt (f (0 + ii) 2)))).R.L.d,
 false = false,
 (rtAdd x (rNew 0 (avInt (f (0 + ii) 1)) (avInt (f (0 + ii) 2)))).R.D.n ≤ x.R.D.n,
 wdF (rtAdd x (rNew 0 (avInt (f (0 + ii) 1)) (avInt (f (0 + ii) 2)))).R.D.W = wdF x.R.D.W ∧ plainSh wSh = true ∨ ∀ (i : Nat), i < (rtAdd x (rNew 0 (avInt (f (0 + ii) 1)) (avInt (f (0 + ii) 2)))).R.D.n → rowOb wSh 0 (wdF x.R.D.W i) (wdF (rtAdd x (rNew 0 (avInt (f (0 + ii) 1)) (avInt (f (0 + ii) 2)))).R.D.W i),
 Both x.S x.R,
 ((x.n + 1) * 40).ble 70368744177664 = true,
 (0 + x.n).ble (rgT m f ii x).n = true,
 (IntKind.i64.wrap (avInt (f (0 + ii) 0))).tmod 10 = 0,
 (0 + ii).blt m = true,
 (ii.blt m && decide (0 ≤ Int.ofNat ii)) = true,
 decide (Int.ofNat ii < Int.ofNat m) = true]) := by kernel_rfl
theorem rg1_1 (m : Nat) (f : Nat → Nat → AV) (q : Nat) (h : Nat → Nat → AV) (ii : Nat) (x : RT) : roundB ERg 3000 rgL (h0F rgF (rgU m f q h)) [(8, Src.nm 1005), (9, Src.nm 9), (900, Src.nm 1003), (901, Src.nm 1001)] (locSt rgF (rgT m f ii x) false (rMb (x.O x.n)) x.n []) [Hint.b true, Hint.l 1] (locSt rgF (rgT m f (ii + 1) (rtAdd x (rNew 1 (avInt (f (0 + ii) 1)) (avInt (f (0 + ii) 2))))) true (rMb (rNew 1 (avInt (f (0 + ii) 1)) (avInt (f (0 + ii) 2)))) x.n []) =
 some (Ex.norm, [(0 : Nat) = 0,
 m = m,
 (none : Option Nat) = none,
 (0 : Nat) = 0,
 (0 : Nat) = 0,
 (0 : Nat) = 0,
 x.n + 1 = (rtAdd x (rNew 1 (avInt (f (0 + ii) 1)) (avInt (f (0 + ii) 2)))).n,
 (none : Option Nat) = none,
 IntKind.i64.wrap (Int.ofNat ii + 1) = Int.ofNat (ii + 1),
 inN (avInt (f (0 + ii) 1)) 2 = (rNew 1 (avInt (f (0 + ii) 1)) (avInt (f (0 + ii) 2))).av,
 avInt (f (0 + ii) 1) = (rNew 1 (avInt (f (0 + ii) 1)) (avInt (f (0 + ii) 2))).th,
 (1 : Int) = 1,
 avInt (f (0 + ii) 1) = (rNew 1 (avInt (f (0 + ii) 1)) (avInt (f (0 + ii) 2))).th,
 nN 1 (avInt (f (0 + ii) 1)) = rl1 (rNew 1 (avInt (f (0 + ii) 1)) (avInt (f (0 + ii) 2))).av,
 (0 : Int) = 0,
 false = (rNew 1 (avInt (f (0 + ii) 1)) (avInt (f (0 + ii) 2))).dn,
 (0 : Int) = 0,
 false = false,
 (rgT m f (ii + 1) (rtAdd x (rNew 1 (avInt (f (0 + ii) 1)) (avInt (f (0 + ii) 2))))).n ≤ x.n + 1,
 ∀ (i : Nat), i < (rgT m f (ii + 1) (rtAdd x (rNew 1 (avInt (f (0 + ii) 1)) (avInt (f (0 + ii) 2))))).n → rowV (CM.mk 8 6703903964971298549787012499102923063739682910296196688861780721860882015036773488400937149083451713845015929093243025426876941405973284973216824503042048 [(8, Src.nm 1005), (9, Src.nm 9), (900, Src.nm 1003), (901, Src.nm 1001)]) rgF.sh 0 (fun j => if i < x.n then lrow 6703903964971298549787012499102923063739682910296196688861780721860882015036773488400937149083451713845015929093243025426876941405973284973216824503042048 2 (rgT m f ii x).M x.n (0 + i) j else rowsOf 5 [cellOf (Value.pointer none), AV.ptr 1003 0 0, cellOf (Value.pointer none), cellOf (Value.pointer none), AV.ptr 1001 0 0] (i - x.n) j) (lrow 6703903964971298549787012499102923063739682910296196688861780721860882015036773488400937149083451713845015929093243025426876941405973284973216824503042048 2 (rgT m f (ii + 1) (rtAdd x (rNew 1 (avInt (f (0 + ii) 1)) (avInt (f (0 + ii) 2))))).M x.n i),
 (0 : Nat) = 0,
 (0 : Nat) = 0,
 (0 : Nat) = 0,
 (0 : Nat) = 0,
 true = true,
 m ≤ m,
 f = f ∧ plainSh arSh = true ∨ ∀ (i : Nat), i < m → rowOb arSh 0 (f i) (f i),
 x.S.st = (rtAdd x (rNew 1 (avInt (f (0 + ii) 1)) (avInt (f (0 + ii) 2)))).S.st,
 x.S.L.c = (rtAdd x (rNew 1 (avInt (f (0 + ii) 1)) (avInt (f (0 + ii) 2)))).S.L.c,
 x.S.L.k = (rtAdd x (rNew 1 (avInt (f (0 + ii) 1)) (avInt (f (0 + ii) 2)))).S.L.k,
 x.S.L.a = (rtAdd x (rNew 1 (avInt (f (0 + ii) 1)) (avInt (f (0 + ii) 2)))).S.L.a,
 x.S.L.f = (rtAdd x (rNew 1 (avInt (f (0 + ii) 1)) (avInt (f (0 + ii) 2)))).S.L.f,
 x.S.L.w = (rtAdd x (rNew 1 (avInt (f (0 + ii) 1)) (avInt (f (0 + ii) 2)))).S.L.w,
 x.S.L.i = (rtAdd x (rNew 1 (avInt (f (0 + ii) 1)) (avInt (f (0 + ii) 2)))).S.L.i,
 x.S.L.d = (rtAdd x (rNew 1 (avInt (f (0 + ii) 1)) (avInt (f (0 + ii) 2)))).S.L.d,
 ∀ (k : List Int), x.S.M k = (rtAdd x (rNew 1 (avInt (f (0 + ii) 1)) (avInt (f (0 + ii) 2)))).S.M k,
 (0 : Nat) = 0,
 x.R.D.n = (rtAdd x (rNew 1 (avInt (f (0 + ii) 1)) (avInt (f (0 + ii) 2)))).R.D.n,
 (none : Option Nat) = none,
 x.R.st = (rtAdd x (rNew 1 (avInt (f (0 + ii) 1)) (avInt (f (0 + ii) 2)))).R.st,
 x.R.L.c = (rtAdd x (rNew 1 (avInt (f (0 + ii) 1)) (avInt (f (0 + ii) 2)))).R.L.c,
 x.R.L.k = (rtAdd x (rNew 1 (avInt (f (0 + ii) 1)) (avInt (f (0 + ii) 2)))).R.L.k,
 x.R.L.a = (rtAdd x (rNew 1 (avInt (f (0 + ii) 1)) (avInt (f (0 + ii) 2)))).R.L.a,
 x.R.L.f = (rtAdd x (rNew 1 (avInt (f (0 + ii) 1)) (avInt (f (0 + ii) 2)))).R.L.f,
 x.R.L.w = (rtAdd x (rNew 1 (avInt (f (0 + ii) 1)) (avInt (f (0 + ii) 2)))).R.L.w,
 x.R.L.i = (rtAdd x (rNew 1 (avInt (f (0 + ii) 1)) (avInt (f (0 + ii) 2)))).R.L.i,
 x.R.L.d = (rtAdd x (rNew 1 (avInt (f (0 + ii) 1)) (avInt (f (0 + ii) 2)))).R.L.d,
 false = false,
 (rtAdd x (rNew 1 (avInt (f (0 + ii) 1)) (avInt (f (0 + ii) 2)))).R.D.n ≤ x.R.D.n,
 wdF (rtAdd x (rNew 1 (avInt (f (0 + ii) 1)) (avInt (f (0 + ii) 2)))).R.D.W = wdF x.R.D.W ∧ plainSh wSh = true ∨ ∀ (i : Nat), i < (rtAdd x (rNew 1 (avInt (f (0 + ii) 1)) (avInt (f (0 + ii) 2)))).R.D.n → rowOb wSh 0 (wdF x.R.D.W i) (wdF (rtAdd x (rNew 1 (avInt (f (0 + ii) 1)) (avInt (f (0 + ii) 2)))).R.D.W i),
 Both x.S x.R,
 ((x.n + 1) * 40).ble 70368744177664 = true,
 (0 + x.n).ble (rgT m f ii x).n = true,
 (IntKind.i64.wrap (avInt (f (0 + ii) 0))).tmod 10 = 1,
 (0 + ii).blt m = true,
 (ii.blt m && decide (0 ≤ Int.ofNat ii)) = true,
 decide (Int.ofNat ii < Int.ofNat m) = true]) := by kernel_rfl
theorem rg2_1 (m : Nat) (f : Nat → Nat → AV) (q : Nat) (h : Nat → Nat → AV) (ii : Nat) (x : RT) : roundB ERg 3000 rgL (h0F rgF (rgU m f q h)) [(8, Src.nm 1005), (9, Src.nm 9), (900, Src.nm 1003), (901, Src.nm 1001)] (locSt rgF (rgT m f ii x) false (rMb (x.O x.n)) x.n []) [Hint.b true, Hint.l 2] (locSt rgF (rgT m f (ii + 1) (rtAdd x (rNew 2 (avInt (f (0 + ii) 1)) (avInt (f (0 + ii) 2))))) true (rMb (rNew 2 (avInt (f (0 + ii) 1)) (avInt (f (0 + ii) 2)))) x.n []) =
 some (Ex.norm, [(0 : Nat) = 0,
 m = m,
 (none : Option Nat) = none,
 (0 : Nat) = 0,
 (0 : Nat) = 0,
 (0 : Nat) = 0,
 x.n + 1 = (rtAdd x (rNew 2 (avInt (f (0 + ii) 1)) (avInt (f (0 + ii) 2)))).n,
 (none : Option Nat) = none,
 IntKind.i64.wrap (Int.ofNat ii + 1) = Int.ofNat (ii + 1),
 inN (avInt (f (0 + ii) 1)) 2 = (rNew 2 (avInt (f (0 + ii) 1)) (avInt (f (0 + ii) 2))).av,
 avInt (f (0 + ii) 1) = (rNew 2 (avInt (f (0 + ii) 1)) (avInt (f (0 + ii) 2))).th,
 avInt (f (0 + ii) 2) = (rNew 2 (avInt (f (0 + ii) 1)) (avInt (f (0 + ii) 2))).hi,
 (0 : Int) = 0,
 false = (rNew 2 (avInt (f (0 + ii) 1)) (avInt (f (0 + ii) 2))).dn,
 (2 : Int) = 2,
 avInt (f (0 + ii) 1) = (rNew 2 (avInt (f (0 + ii) 1)) (avInt (f (0 + ii) 2))).th,
 nN 2 (avInt (f (0 + ii) 1)) = rl1 (rNew 2 (avInt (f (0 + ii) 1)) (avInt (f (0 + ii) 2))).av,
 nH 2 (avInt (f (0 + ii) 2)) = (rNew 2 (avInt (f (0 + ii) 1)) (avInt (f (0 + ii) 2))).hi,
 false = (rNew 2 (avInt (f (0 + ii) 1)) (avInt (f (0 + ii) 2))).dn,
 (0 : Int) = 0,
 false = false,
 (rgT m f (ii + 1) (rtAdd x (rNew 2 (avInt (f (0 + ii) 1)) (avInt (f (0 + ii) 2))))).n ≤ x.n + 1,
 ∀ (i : Nat), i < (rgT m f (ii + 1) (rtAdd x (rNew 2 (avInt (f (0 + ii) 1)) (avInt (f (0 + ii) 2))))).n → rowV (CM.mk 8 6703903964971298549787012499102923063739682910296196688861780721860882015036773488400937149083451713845015929093243025426876941405973284973216824503042048 [(8, Src.nm 1005), (9, Src.nm 9), (900, Src.nm 1003), (901, Src.nm 1001)]) rgF.sh 0 (fun j => if i < x.n then lrow 6703903964971298549787012499102923063739682910296196688861780721860882015036773488400937149083451713845015929093243025426876941405973284973216824503042048 2 (rgT m f ii x).M x.n (0 + i) j else rowsOf 5 [cellOf (Value.pointer none), cellOf (Value.pointer none), AV.ptr 1003 0 0, cellOf (Value.pointer none), AV.ptr 1001 0 0] (i - x.n) j) (lrow 6703903964971298549787012499102923063739682910296196688861780721860882015036773488400937149083451713845015929093243025426876941405973284973216824503042048 2 (rgT m f (ii + 1) (rtAdd x (rNew 2 (avInt (f (0 + ii) 1)) (avInt (f (0 + ii) 2))))).M x.n i),
 (0 : Nat) = 0,
 (0 : Nat) = 0,
 (0 : Nat) = 0,
 (0 : Nat) = 0,
 true = true,
 m ≤ m,
 f = f ∧ plainSh arSh = true ∨ ∀ (i : Nat), i < m → rowOb arSh 0 (f i) (f i),
 x.S.st = (rtAdd x (rNew 2 (avInt (f (0 + ii) 1)) (avInt (f (0 + ii) 2)))).S.st,
 x.S.L.c = (rtAdd x (rNew 2 (avInt (f (0 + ii) 1)) (avInt (f (0 + ii) 2)))).S.L.c,
 x.S.L.k = (rtAdd x (rNew 2 (avInt (f (0 + ii) 1)) (avInt (f (0 + ii) 2)))).S.L.k,
 x.S.L.a = (rtAdd x (rNew 2 (avInt (f (0 + ii) 1)) (avInt (f (0 + ii) 2)))).S.L.a,
 x.S.L.f = (rtAdd x (rNew 2 (avInt (f (0 + ii) 1)) (avInt (f (0 + ii) 2)))).S.L.f,
 x.S.L.w = (rtAdd x (rNew 2 (avInt (f (0 + ii) 1)) (avInt (f (0 + ii) 2)))).S.L.w,
 x.S.L.i = (rtAdd x (rNew 2 (avInt (f (0 + ii) 1)) (avInt (f (0 + ii) 2)))).S.L.i,
 x.S.L.d = (rtAdd x (rNew 2 (avInt (f (0 + ii) 1)) (avInt (f (0 + ii) 2)))).S.L.d,
 ∀ (k : List Int), x.S.M k = (rtAdd x (rNew 2 (avInt (f (0 + ii) 1)) (avInt (f (0 + ii) 2)))).S.M k,
 (0 : Nat) = 0,
 x.R.D.n = (rtAdd x (rNew 2 (avInt (f (0 + ii) 1)) (avInt (f (0 + ii) 2)))).R.D.n,
 (none : Option Nat) = none,
 x.R.st = (rtAdd x (rNew 2 (avInt (f (0 + ii) 1)) (avInt (f (0 + ii) 2)))).R.st,
 x.R.L.c = (rtAdd x (rNew 2 (avInt (f (0 + ii) 1)) (avInt (f (0 + ii) 2)))).R.L.c,
 x.R.L.k = (rtAdd x (rNew 2 (avInt (f (0 + ii) 1)) (avInt (f (0 + ii) 2)))).R.L.k,
 x.R.L.a = (rtAdd x (rNew 2 (avInt (f (0 + ii) 1)) (avInt (f (0 + ii) 2)))).R.L.a,
 x.R.L.f = (rtAdd x (rNew 2 (avInt (f (0 + ii) 1)) (avInt (f (0 + ii) 2)))).R.L.f,
 x.R.L.w = (rtAdd x (rNew 2 (avInt (f (0 + ii) 1)) (avInt (f (0 + ii) 2)))).R.L.w,
 x.R.L.i = (rtAdd x (rNew 2 (avInt (f (0 + ii) 1)) (avInt (f (0 + ii) 2)))).R.L.i,
 x.R.L.d = (rtAdd x (rNew 2 (avInt (f (0 + ii) 1)) (avInt (f (0 + ii) 2)))).R.L.d,
 false = false,
 (rtAdd x (rNew 2 (avInt (f (0 + ii) 1)) (avInt (f (0 + ii) 2)))).R.D.n ≤ x.R.D.n,
 wdF (rtAdd x (rNew 2 (avInt (f (0 + ii) 1)) (avInt (f (0 + ii) 2)))).R.D.W = wdF x.R.D.W ∧ plainSh wSh = true ∨ ∀ (i : Nat), i < (rtAdd x (rNew 2 (avInt (f (0 + ii) 1)) (avInt (f (0 + ii) 2)))).R.D.n → rowOb wSh 0 (wdF x.R.D.W i) (wdF (rtAdd x (rNew 2 (avInt (f (0 + ii) 1)) (avInt (f (0 + ii) 2)))).R.D.W i),
 Both x.S x.R,
 ((x.n + 1) * 40).ble 70368744177664 = true,
 (0 + x.n).ble (rgT m f ii x).n = true,
 (IntKind.i64.wrap (avInt (f (0 + ii) 0))).tmod 10 = 2,
 (0 + ii).blt m = true,
 (ii.blt m && decide (0 ≤ Int.ofNat ii)) = true,
 decide (Int.ofNat ii < Int.ofNat m) = true]) := by kernel_rfl
theorem rg3_1 (m : Nat) (f : Nat → Nat → AV) (q : Nat) (h : Nat → Nat → AV) (ii : Nat) (x : RT) : roundB ERg 3000 rgL (h0F rgF (rgU m f q h)) [(8, Src.nm 1005), (9, Src.nm 9), (900, Src.nm 1003), (901, Src.nm 1001)] (locSt rgF (rgT m f ii x) false (rMb (x.O x.n)) x.n []) [Hint.b true, Hint.l 3] (locSt rgF (rgT m f (ii + 1) (rtAdd x (rNew 3 (avInt (f (0 + ii) 1)) (avInt (f (0 + ii) 2))))) true (rMb (rNew 3 (avInt (f (0 + ii) 1)) (avInt (f (0 + ii) 2)))) x.n []) =
 some (Ex.norm, [(0 : Nat) = 0,
 m = m,
 (none : Option Nat) = none,
 (0 : Nat) = 0,
 (0 : Nat) = 0,
 (0 : Nat) = 0,
 x.n + 1 = (rtAdd x (rNew 3 (avInt (f (0 + ii) 1)) (avInt (f (0 + ii) 2)))).n,
 (none : Option Nat) = none,
 IntKind.i64.wrap (Int.ofNat ii + 1) = Int.ofNat (ii + 1),
 (2 : Int) = 2,
 (0 : Int) = 0,
 false = (rNew 3 (avInt (f (0 + ii) 1)) (avInt (f (0 + ii) 2))).dn,
 (3 : Int) = 3,
 avInt (f (0 + ii) 1) = (rNew 3 (avInt (f (0 + ii) 1)) (avInt (f (0 + ii) 2))).th,
 (1 : Int) = 1,
 (0 : Int) = 0,
 false = (rNew 3 (avInt (f (0 + ii) 1)) (avInt (f (0 + ii) 2))).dn,
 (0 : Int) = 0,
 false = false,
 (rgT m f (ii + 1) (rtAdd x (rNew 3 (avInt (f (0 + ii) 1)) (avInt (f (0 + ii) 2))))).n ≤ x.n + 1,
 ∀ (i : Nat), i < (rgT m f (ii + 1) (rtAdd x (rNew 3 (avInt (f (0 + ii) 1)) (avInt (f (0 + ii) 2))))).n → rowV (CM.mk 8 6703903964971298549787012499102923063739682910296196688861780721860882015036773488400937149083451713845015929093243025426876941405973284973216824503042048 [(8, Src.nm 1005), (9, Src.nm 9), (900, Src.nm 1003), (901, Src.nm 1001)]) rgF.sh 0 (fun j => if i < x.n then lrow 6703903964971298549787012499102923063739682910296196688861780721860882015036773488400937149083451713845015929093243025426876941405973284973216824503042048 2 (rgT m f ii x).M x.n (0 + i) j else rowsOf 5 [cellOf (Value.pointer none), cellOf (Value.pointer none), cellOf (Value.pointer none), AV.ptr 1003 0 0, AV.ptr 1001 0 0] (i - x.n) j) (lrow 6703903964971298549787012499102923063739682910296196688861780721860882015036773488400937149083451713845015929093243025426876941405973284973216824503042048 2 (rgT m f (ii + 1) (rtAdd x (rNew 3 (avInt (f (0 + ii) 1)) (avInt (f (0 + ii) 2))))).M x.n i),
 (0 : Nat) = 0,
 (0 : Nat) = 0,
 (0 : Nat) = 0,
 (0 : Nat) = 0,
 true = true,
 m ≤ m,
 f = f ∧ plainSh arSh = true ∨ ∀ (i : Nat), i < m → rowOb arSh 0 (f i) (f i),
 x.S.st = (rtAdd x (rNew 3 (avInt (f (0 + ii) 1)) (avInt (f (0 + ii) 2)))).S.st,
 x.S.L.c = (rtAdd x (rNew 3 (avInt (f (0 + ii) 1)) (avInt (f (0 + ii) 2)))).S.L.c,
 x.S.L.k = (rtAdd x (rNew 3 (avInt (f (0 + ii) 1)) (avInt (f (0 + ii) 2)))).S.L.k,
 x.S.L.a = (rtAdd x (rNew 3 (avInt (f (0 + ii) 1)) (avInt (f (0 + ii) 2)))).S.L.a,
 x.S.L.f = (rtAdd x (rNew 3 (avInt (f (0 + ii) 1)) (avInt (f (0 + ii) 2)))).S.L.f,
 x.S.L.w = (rtAdd x (rNew 3 (avInt (f (0 + ii) 1)) (avInt (f (0 + ii) 2)))).S.L.w,
 x.S.L.i = (rtAdd x (rNew 3 (avInt (f (0 + ii) 1)) (avInt (f (0 + ii) 2)))).S.L.i,
 x.S.L.d = (rtAdd x (rNew 3 (avInt (f (0 + ii) 1)) (avInt (f (0 + ii) 2)))).S.L.d,
 ∀ (k : List Int), x.S.M k = (rtAdd x (rNew 3 (avInt (f (0 + ii) 1)) (avInt (f (0 + ii) 2)))).S.M k,
 (0 : Nat) = 0,
 x.R.D.n = (rtAdd x (rNew 3 (avInt (f (0 + ii) 1)) (avInt (f (0 + ii) 2)))).R.D.n,
 (none : Option Nat) = none,
 x.R.st = (rtAdd x (rNew 3 (avInt (f (0 + ii) 1)) (avInt (f (0 + ii) 2)))).R.st,
 x.R.L.c = (rtAdd x (rNew 3 (avInt (f (0 + ii) 1)) (avInt (f (0 + ii) 2)))).R.L.c,
 x.R.L.k = (rtAdd x (rNew 3 (avInt (f (0 + ii) 1)) (avInt (f (0 + ii) 2)))).R.L.k,
 x.R.L.a = (rtAdd x (rNew 3 (avInt (f (0 + ii) 1)) (avInt (f (0 + ii) 2)))).R.L.a,
 x.R.L.f = (rtAdd x (rNew 3 (avInt (f (0 + ii) 1)) (avInt (f (0 + ii) 2)))).R.L.f,
 x.R.L.w = (rtAdd x (rNew 3 (avInt (f (0 + ii) 1)) (avInt (f (0 + ii) 2)))).R.L.w,
 x.R.L.i = (rtAdd x (rNew 3 (avInt (f (0 + ii) 1)) (avInt (f (0 + ii) 2)))).R.L.i,
 x.R.L.d = (rtAdd x (rNew 3 (avInt (f (0 + ii) 1)) (avInt (f (0 + ii) 2)))).R.L.d,
 false = false,
 (rtAdd x (rNew 3 (avInt (f (0 + ii) 1)) (avInt (f (0 + ii) 2)))).R.D.n ≤ x.R.D.n,
 wdF (rtAdd x (rNew 3 (avInt (f (0 + ii) 1)) (avInt (f (0 + ii) 2)))).R.D.W = wdF x.R.D.W ∧ plainSh wSh = true ∨ ∀ (i : Nat), i < (rtAdd x (rNew 3 (avInt (f (0 + ii) 1)) (avInt (f (0 + ii) 2)))).R.D.n → rowOb wSh 0 (wdF x.R.D.W i) (wdF (rtAdd x (rNew 3 (avInt (f (0 + ii) 1)) (avInt (f (0 + ii) 2)))).R.D.W i),
 Both x.S x.R,
 ((x.n + 1) * 40).ble 70368744177664 = true,
 (0 + x.n).ble (rgT m f ii x).n = true,
 (IntKind.i64.wrap (avInt (f (0 + ii) 0))).tmod 10 = 3,
 (0 + ii).blt m = true,
 (ii.blt m && decide (0 ≤ Int.ofNat ii)) = true,
 decide (Int.ofNat ii < Int.ofNat m) = true]) := by kernel_rfl
theorem rg4_1 (m : Nat) (f : Nat → Nat → AV) (q : Nat) (h : Nat → Nat → AV) (ii : Nat) (x : RT) : roundB ERg 3000 rgL (h0F rgF (rgU m f q h)) [(8, Src.nm 8), (9, Src.nm 1003)] (locSt rgF (rgT m f ii x) false (rMb (x.O x.n)) x.n []) [Hint.b true, Hint.b false, Hint.b false, Hint.b false, Hint.b false, Hint.b true, Hint.b false] (locSt rgF (rgT m f (ii + 1) (RT.mk (mStore x.S (avInt (f (0 + ii) 3)) (avInt (f (0 + ii) 4)) (avInt (f (0 + ii) 5)) (avInt (f (0 + ii) 6))) (rStore x.R (avInt (f (0 + ii) 3)) (avInt (f (0 + ii) 4)) (avInt (f (0 + ii) 5)) (avInt (f (0 + ii) 6))) x.n x.O)) false (rMb (x.O x.n)) x.n []) =
 some (Ex.norm, [(0 : Nat) = 0,
 m = m,
 (none : Option Nat) = none,
 (0 : Nat) = 0,
 (0 : Nat) = 0,
 (0 : Nat) = 0,
 x.n = (RT.mk (mStore x.S (avInt (f (0 + ii) 3)) (avInt (f (0 + ii) 4)) (avInt (f (0 + ii) 5)) (avInt (f (0 + ii) 6))) (rStore x.R (avInt (f (0 + ii) 3)) (avInt (f (0 + ii) 4)) (avInt (f (0 + ii) 5)) (avInt (f (0 + ii) 6))) x.n x.O).n,
 (none : Option Nat) = none,
 IntKind.i64.wrap (Int.ofNat ii + 1) = Int.ofNat (ii + 1),
 false = false,
 (rgT m f (ii + 1) (RT.mk (mStore x.S (avInt (f (0 + ii) 3)) (avInt (f (0 + ii) 4)) (avInt (f (0 + ii) 5)) (avInt (f (0 + ii) 6))) (rStore x.R (avInt (f (0 + ii) 3)) (avInt (f (0 + ii) 4)) (avInt (f (0 + ii) 5)) (avInt (f (0 + ii) 6))) x.n x.O)).n ≤ (rgT m f ii x).n,
 ∀ (i : Nat), i < (rgT m f (ii + 1) (RT.mk (mStore x.S (avInt (f (0 + ii) 3)) (avInt (f (0 + ii) 4)) (avInt (f (0 + ii) 5)) (avInt (f (0 + ii) 6))) (rStore x.R (avInt (f (0 + ii) 3)) (avInt (f (0 + ii) 4)) (avInt (f (0 + ii) 5)) (avInt (f (0 + ii) 6))) x.n x.O)).n → rowV (CM.mk 8 6703903964971298549787012499102923063739682910296196688861780721860882015036773488400937149083451713845015929093243025426876941405973284973216824503042048 [(8, Src.nm 8), (9, Src.nm 1003)]) rgF.sh 0 (lrow 6703903964971298549787012499102923063739682910296196688861780721860882015036773488400937149083451713845015929093243025426876941405973284973216824503042048 2 (rgT m f ii x).M x.n i) (lrow 6703903964971298549787012499102923063739682910296196688861780721860882015036773488400937149083451713845015929093243025426876941405973284973216824503042048 2 (rgT m f (ii + 1) (RT.mk (mStore x.S (avInt (f (0 + ii) 3)) (avInt (f (0 + ii) 4)) (avInt (f (0 + ii) 5)) (avInt (f (0 + ii) 6))) (rStore x.R (avInt (f (0 + ii) 3)) (avInt (f (0 + ii) 4)) (avInt (f (0 + ii) 5)) (avInt (f (0 + ii) 6))) x.n x.O)).M x.n i),
 (0 : Nat) = 0,
 (0 : Nat) = 0,
 (0 : Nat) = 0,
 (0 : Nat) = 0,
 true = true,
 m ≤ m,
 f = f ∧ plainSh arSh = true ∨ ∀ (i : Nat), i < m → rowOb arSh 0 (f i) (f i),
 (MS.mk (memPut x.S.M (avInt (f (0 + ii) 3)) (avInt (f (0 + ii) 4)) (avInt (f (0 + ii) 5)) (avInt (f (0 + ii) 6))) (IntKind.i64.wrap (x.S.st + 1)) (LS.mk 2 (avInt (f (0 + ii) 3)) (avInt (f (0 + ii) 4)) (avInt (f (0 + ii) 5)) (mget x.S.M (key (avInt (f (0 + ii) 3)) (avInt (f (0 + ii) 4)) (avInt (f (0 + ii) 5)))) (memIs x.S.M (avInt (f (0 + ii) 3)) (avInt (f (0 + ii) 4)) (avInt (f (0 + ii) 5)) (avInt (f (0 + ii) 6))) false)).st = (RT.mk (mStore x.S (avInt (f (0 + ii) 3)) (avInt (f (0 + ii) 4)) (avInt (f (0 + ii) 5)) (avInt (f (0 + ii) 6))) (rStore x.R (avInt (f (0 + ii) 3)) (avInt (f (0 + ii) 4)) (avInt (f (0 + ii) 5)) (avInt (f (0 + ii) 6))) x.n x.O).S.st,
 (2 : Int) = 2,
 (MS.mk (memPut x.S.M (avInt (f (0 + ii) 3)) (avInt (f (0 + ii) 4)) (avInt (f (0 + ii) 5)) (avInt (f (0 + ii) 6))) (IntKind.i64.wrap (x.S.st + 1)) (LS.mk 2 (avInt (f (0 + ii) 3)) (avInt (f (0 + ii) 4)) (avInt (f (0 + ii) 5)) (mget x.S.M (key (avInt (f (0 + ii) 3)) (avInt (f (0 + ii) 4)) (avInt (f (0 + ii) 5)))) (memIs x.S.M (avInt (f (0 + ii) 3)) (avInt (f (0 + ii) 4)) (avInt (f (0 + ii) 5)) (avInt (f (0 + ii) 6))) false)).L.k = (RT.mk (mStore x.S (avInt (f (0 + ii) 3)) (avInt (f (0 + ii) 4)) (avInt (f (0 + ii) 5)) (avInt (f (0 + ii) 6))) (rStore x.R (avInt (f (0 + ii) 3)) (avInt (f (0 + ii) 4)) (avInt (f (0 + ii) 5)) (avInt (f (0 + ii) 6))) x.n x.O).S.L.k,
 (MS.mk (memPut x.S.M (avInt (f (0 + ii) 3)) (avInt (f (0 + ii) 4)) (avInt (f (0 + ii) 5)) (avInt (f (0 + ii) 6))) (IntKind.i64.wrap (x.S.st + 1)) (LS.mk 2 (avInt (f (0 + ii) 3)) (avInt (f (0 + ii) 4)) (avInt (f (0 + ii) 5)) (mget x.S.M (key (avInt (f (0 + ii) 3)) (avInt (f (0 + ii) 4)) (avInt (f (0 + ii) 5)))) (memIs x.S.M (avInt (f (0 + ii) 3)) (avInt (f (0 + ii) 4)) (avInt (f (0 + ii) 5)) (avInt (f (0 + ii) 6))) false)).L.a = (RT.mk (mStore x.S (avInt (f (0 + ii) 3)) (avInt (f (0 + ii) 4)) (avInt (f (0 + ii) 5)) (avInt (f (0 + ii) 6))) (rStore x.R (avInt (f (0 + ii) 3)) (avInt (f (0 + ii) 4)) (avInt (f (0 + ii) 5)) (avInt (f (0 + ii) 6))) x.n x.O).S.L.a,
 (MS.mk (memPut x.S.M (avInt (f (0 + ii) 3)) (avInt (f (0 + ii) 4)) (avInt (f (0 + ii) 5)) (avInt (f (0 + ii) 6))) (IntKind.i64.wrap (x.S.st + 1)) (LS.mk 2 (avInt (f (0 + ii) 3)) (avInt (f (0 + ii) 4)) (avInt (f (0 + ii) 5)) (mget x.S.M (key (avInt (f (0 + ii) 3)) (avInt (f (0 + ii) 4)) (avInt (f (0 + ii) 5)))) (memIs x.S.M (avInt (f (0 + ii) 3)) (avInt (f (0 + ii) 4)) (avInt (f (0 + ii) 5)) (avInt (f (0 + ii) 6))) false)).L.f = (RT.mk (mStore x.S (avInt (f (0 + ii) 3)) (avInt (f (0 + ii) 4)) (avInt (f (0 + ii) 5)) (avInt (f (0 + ii) 6))) (rStore x.R (avInt (f (0 + ii) 3)) (avInt (f (0 + ii) 4)) (avInt (f (0 + ii) 5)) (avInt (f (0 + ii) 6))) x.n x.O).S.L.f,
 (MS.mk (memPut x.S.M (avInt (f (0 + ii) 3)) (avInt (f (0 + ii) 4)) (avInt (f (0 + ii) 5)) (avInt (f (0 + ii) 6))) (IntKind.i64.wrap (x.S.st + 1)) (LS.mk 2 (avInt (f (0 + ii) 3)) (avInt (f (0 + ii) 4)) (avInt (f (0 + ii) 5)) (mget x.S.M (key (avInt (f (0 + ii) 3)) (avInt (f (0 + ii) 4)) (avInt (f (0 + ii) 5)))) (memIs x.S.M (avInt (f (0 + ii) 3)) (avInt (f (0 + ii) 4)) (avInt (f (0 + ii) 5)) (avInt (f (0 + ii) 6))) false)).L.w = (RT.mk (mStore x.S (avInt (f (0 + ii) 3)) (avInt (f (0 + ii) 4)) (avInt (f (0 + ii) 5)) (avInt (f (0 + ii) 6))) (rStore x.R (avInt (f (0 + ii) 3)) (avInt (f (0 + ii) 4)) (avInt (f (0 + ii) 5)) (avInt (f (0 + ii) 6))) x.n x.O).S.L.w,
 (MS.mk (memPut x.S.M (avInt (f (0 + ii) 3)) (avInt (f (0 + ii) 4)) (avInt (f (0 + ii) 5)) (avInt (f (0 + ii) 6))) (IntKind.i64.wrap (x.S.st + 1)) (LS.mk 2 (avInt (f (0 + ii) 3)) (avInt (f (0 + ii) 4)) (avInt (f (0 + ii) 5)) (mget x.S.M (key (avInt (f (0 + ii) 3)) (avInt (f (0 + ii) 4)) (avInt (f (0 + ii) 5)))) (memIs x.S.M (avInt (f (0 + ii) 3)) (avInt (f (0 + ii) 4)) (avInt (f (0 + ii) 5)) (avInt (f (0 + ii) 6))) false)).L.i = (RT.mk (mStore x.S (avInt (f (0 + ii) 3)) (avInt (f (0 + ii) 4)) (avInt (f (0 + ii) 5)) (avInt (f (0 + ii) 6))) (rStore x.R (avInt (f (0 + ii) 3)) (avInt (f (0 + ii) 4)) (avInt (f (0 + ii) 5)) (avInt (f (0 + ii) 6))) x.n x.O).S.L.i,
 (MS.mk (memPut x.S.M (avInt (f (0 + ii) 3)) (avInt (f (0 + ii) 4)) (avInt (f (0 + ii) 5)) (avInt (f (0 + ii) 6))) (IntKind.i64.wrap (x.S.st + 1)) (LS.mk 2 (avInt (f (0 + ii) 3)) (avInt (f (0 + ii) 4)) (avInt (f (0 + ii) 5)) (mget x.S.M (key (avInt (f (0 + ii) 3)) (avInt (f (0 + ii) 4)) (avInt (f (0 + ii) 5)))) (memIs x.S.M (avInt (f (0 + ii) 3)) (avInt (f (0 + ii) 4)) (avInt (f (0 + ii) 5)) (avInt (f (0 + ii) 6))) false)).L.d = (RT.mk (mStore x.S (avInt (f (0 + ii) 3)) (avInt (f (0 + ii) 4)) (avInt (f (0 + ii) 5)) (avInt (f (0 + ii) 6))) (rStore x.R (avInt (f (0 + ii) 3)) (avInt (f (0 + ii) 4)) (avInt (f (0 + ii) 5)) (avInt (f (0 + ii) 6))) x.n x.O).S.L.d,
 ∀ (k : List Int), (MS.mk (memPut x.S.M (avInt (f (0 + ii) 3)) (avInt (f (0 + ii) 4)) (avInt (f (0 + ii) 5)) (avInt (f (0 + ii) 6))) (IntKind.i64.wrap (x.S.st + 1)) (LS.mk 2 (avInt (f (0 + ii) 3)) (avInt (f (0 + ii) 4)) (avInt (f (0 + ii) 5)) (mget x.S.M (key (avInt (f (0 + ii) 3)) (avInt (f (0 + ii) 4)) (avInt (f (0 + ii) 5)))) (memIs x.S.M (avInt (f (0 + ii) 3)) (avInt (f (0 + ii) 4)) (avInt (f (0 + ii) 5)) (avInt (f (0 + ii) 6))) false)).M k = (RT.mk (mStore x.S (avInt (f (0 + ii) 3)) (avInt (f (0 + ii) 4)) (avInt (f (0 + ii) 5)) (avInt (f (0 + ii) 6))) (rStore x.R (avInt (f (0 + ii) 3)) (avInt (f (0 + ii) 4)) (avInt (f (0 + ii) 5)) (avInt (f (0 + ii) 6))) x.n x.O).S.M k,
 (0 : Nat) = 0,
 (dPut (dOf x.R.D.n (wdF x.R.D.W)) (avInt (f (0 + ii) 3)) (avInt (f (0 + ii) 4)) (avInt (f (0 + ii) 5)) (avInt (f (0 + ii) 6))).n = (RT.mk (mStore x.S (avInt (f (0 + ii) 3)) (avInt (f (0 + ii) 4)) (avInt (f (0 + ii) 5)) (avInt (f (0 + ii) 6))) (rStore x.R (avInt (f (0 + ii) 3)) (avInt (f (0 + ii) 4)) (avInt (f (0 + ii) 5)) (avInt (f (0 + ii) 6))) x.n x.O).R.D.n,
 (none : Option Nat) = none,
 IntKind.i64.wrap (x.R.st + 1) = (RT.mk (mStore x.S (avInt (f (0 + ii) 3)) (avInt (f (0 + ii) 4)) (avInt (f (0 + ii) 5)) (avInt (f (0 + ii) 6))) (rStore x.R (avInt (f (0 + ii) 3)) (avInt (f (0 + ii) 4)) (avInt (f (0 + ii) 5)) (avInt (f (0 + ii) 6))) x.n x.O).R.st,
 (2 : Int) = 2,
 (LS.mk 2 (avInt (f (0 + ii) 3)) (avInt (f (0 + ii) 4)) (avInt (f (0 + ii) 5)) (dWord (dOf x.R.D.n (wdF x.R.D.W)) (avInt (f (0 + ii) 3)) (avInt (f (0 + ii) 4)) (avInt (f (0 + ii) 5))) (dWord (dPut (dOf x.R.D.n (wdF x.R.D.W)) (avInt (f (0 + ii) 3)) (avInt (f (0 + ii) 4)) (avInt (f (0 + ii) 5)) (avInt (f (0 + ii) 6))) (avInt (f (0 + ii) 3)) (avInt (f (0 + ii) 4)) (avInt (f (0 + ii) 5))) false).k = (RT.mk (mStore x.S (avInt (f (0 + ii) 3)) (avInt (f (0 + ii) 4)) (avInt (f (0 + ii) 5)) (avInt (f (0 + ii) 6))) (rStore x.R (avInt (f (0 + ii) 3)) (avInt (f (0 + ii) 4)) (avInt (f (0 + ii) 5)) (avInt (f (0 + ii) 6))) x.n x.O).R.L.k,
 (LS.mk 2 (avInt (f (0 + ii) 3)) (avInt (f (0 + ii) 4)) (avInt (f (0 + ii) 5)) (dWord (dOf x.R.D.n (wdF x.R.D.W)) (avInt (f (0 + ii) 3)) (avInt (f (0 + ii) 4)) (avInt (f (0 + ii) 5))) (dWord (dPut (dOf x.R.D.n (wdF x.R.D.W)) (avInt (f (0 + ii) 3)) (avInt (f (0 + ii) 4)) (avInt (f (0 + ii) 5)) (avInt (f (0 + ii) 6))) (avInt (f (0 + ii) 3)) (avInt (f (0 + ii) 4)) (avInt (f (0 + ii) 5))) false).a = (RT.mk (mStore x.S (avInt (f (0 + ii) 3)) (avInt (f (0 + ii) 4)) (avInt (f (0 + ii) 5)) (avInt (f (0 + ii) 6))) (rStore x.R (avInt (f (0 + ii) 3)) (avInt (f (0 + ii) 4)) (avInt (f (0 + ii) 5)) (avInt (f (0 + ii) 6))) x.n x.O).R.L.a,
 (LS.mk 2 (avInt (f (0 + ii) 3)) (avInt (f (0 + ii) 4)) (avInt (f (0 + ii) 5)) (dWord (dOf x.R.D.n (wdF x.R.D.W)) (avInt (f (0 + ii) 3)) (avInt (f (0 + ii) 4)) (avInt (f (0 + ii) 5))) (dWord (dPut (dOf x.R.D.n (wdF x.R.D.W)) (avInt (f (0 + ii) 3)) (avInt (f (0 + ii) 4)) (avInt (f (0 + ii) 5)) (avInt (f (0 + ii) 6))) (avInt (f (0 + ii) 3)) (avInt (f (0 + ii) 4)) (avInt (f (0 + ii) 5))) false).f = (RT.mk (mStore x.S (avInt (f (0 + ii) 3)) (avInt (f (0 + ii) 4)) (avInt (f (0 + ii) 5)) (avInt (f (0 + ii) 6))) (rStore x.R (avInt (f (0 + ii) 3)) (avInt (f (0 + ii) 4)) (avInt (f (0 + ii) 5)) (avInt (f (0 + ii) 6))) x.n x.O).R.L.f,
 (LS.mk 2 (avInt (f (0 + ii) 3)) (avInt (f (0 + ii) 4)) (avInt (f (0 + ii) 5)) (dWord (dOf x.R.D.n (wdF x.R.D.W)) (avInt (f (0 + ii) 3)) (avInt (f (0 + ii) 4)) (avInt (f (0 + ii) 5))) (dWord (dPut (dOf x.R.D.n (wdF x.R.D.W)) (avInt (f (0 + ii) 3)) (avInt (f (0 + ii) 4)) (avInt (f (0 + ii) 5)) (avInt (f (0 + ii) 6))) (avInt (f (0 + ii) 3)) (avInt (f (0 + ii) 4)) (avInt (f (0 + ii) 5))) false).w = (RT.mk (mStore x.S (avInt (f (0 + ii) 3)) (avInt (f (0 + ii) 4)) (avInt (f (0 + ii) 5)) (avInt (f (0 + ii) 6))) (rStore x.R (avInt (f (0 + ii) 3)) (avInt (f (0 + ii) 4)) (avInt (f (0 + ii) 5)) (avInt (f (0 + ii) 6))) x.n x.O).R.L.w,
 (LS.mk 2 (avInt (f (0 + ii) 3)) (avInt (f (0 + ii) 4)) (avInt (f (0 + ii) 5)) (dWord (dOf x.R.D.n (wdF x.R.D.W)) (avInt (f (0 + ii) 3)) (avInt (f (0 + ii) 4)) (avInt (f (0 + ii) 5))) (dWord (dPut (dOf x.R.D.n (wdF x.R.D.W)) (avInt (f (0 + ii) 3)) (avInt (f (0 + ii) 4)) (avInt (f (0 + ii) 5)) (avInt (f (0 + ii) 6))) (avInt (f (0 + ii) 3)) (avInt (f (0 + ii) 4)) (avInt (f (0 + ii) 5))) false).i = (RT.mk (mStore x.S (avInt (f (0 + ii) 3)) (avInt (f (0 + ii) 4)) (avInt (f (0 + ii) 5)) (avInt (f (0 + ii) 6))) (rStore x.R (avInt (f (0 + ii) 3)) (avInt (f (0 + ii) 4)) (avInt (f (0 + ii) 5)) (avInt (f (0 + ii) 6))) x.n x.O).R.L.i,
 (LS.mk 2 (avInt (f (0 + ii) 3)) (avInt (f (0 + ii) 4)) (avInt (f (0 + ii) 5)) (dWord (dOf x.R.D.n (wdF x.R.D.W)) (avInt (f (0 + ii) 3)) (avInt (f (0 + ii) 4)) (avInt (f (0 + ii) 5))) (dWord (dPut (dOf x.R.D.n (wdF x.R.D.W)) (avInt (f (0 + ii) 3)) (avInt (f (0 + ii) 4)) (avInt (f (0 + ii) 5)) (avInt (f (0 + ii) 6))) (avInt (f (0 + ii) 3)) (avInt (f (0 + ii) 4)) (avInt (f (0 + ii) 5))) false).d = (RT.mk (mStore x.S (avInt (f (0 + ii) 3)) (avInt (f (0 + ii) 4)) (avInt (f (0 + ii) 5)) (avInt (f (0 + ii) 6))) (rStore x.R (avInt (f (0 + ii) 3)) (avInt (f (0 + ii) 4)) (avInt (f (0 + ii) 5)) (avInt (f (0 + ii) 6))) x.n x.O).R.L.d,
 false = false,
 (RT.mk (mStore x.S (avInt (f (0 + ii) 3)) (avInt (f (0 + ii) 4)) (avInt (f (0 + ii) 5)) (avInt (f (0 + ii) 6))) (rStore x.R (avInt (f (0 + ii) 3)) (avInt (f (0 + ii) 4)) (avInt (f (0 + ii) 5)) (avInt (f (0 + ii) 6))) x.n x.O).R.D.n ≤ (dPut (dOf x.R.D.n (wdF x.R.D.W)) (avInt (f (0 + ii) 3)) (avInt (f (0 + ii) 4)) (avInt (f (0 + ii) 5)) (avInt (f (0 + ii) 6))).n,
 wdF (RT.mk (mStore x.S (avInt (f (0 + ii) 3)) (avInt (f (0 + ii) 4)) (avInt (f (0 + ii) 5)) (avInt (f (0 + ii) 6))) (rStore x.R (avInt (f (0 + ii) 3)) (avInt (f (0 + ii) 4)) (avInt (f (0 + ii) 5)) (avInt (f (0 + ii) 6))) x.n x.O).R.D.W = wdF (dPut (dOf x.R.D.n (wdF x.R.D.W)) (avInt (f (0 + ii) 3)) (avInt (f (0 + ii) 4)) (avInt (f (0 + ii) 5)) (avInt (f (0 + ii) 6))).W ∧ plainSh wSh = true ∨ ∀ (i : Nat), i < (RT.mk (mStore x.S (avInt (f (0 + ii) 3)) (avInt (f (0 + ii) 4)) (avInt (f (0 + ii) 5)) (avInt (f (0 + ii) 6))) (rStore x.R (avInt (f (0 + ii) 3)) (avInt (f (0 + ii) 4)) (avInt (f (0 + ii) 5)) (avInt (f (0 + ii) 6))) x.n x.O).R.D.n → rowOb wSh 0 (wdF (dPut (dOf x.R.D.n (wdF x.R.D.W)) (avInt (f (0 + ii) 3)) (avInt (f (0 + ii) 4)) (avInt (f (0 + ii) 5)) (avInt (f (0 + ii) 6))).W i) (wdF (RT.mk (mStore x.S (avInt (f (0 + ii) 3)) (avInt (f (0 + ii) 4)) (avInt (f (0 + ii) 5)) (avInt (f (0 + ii) 6))) (rStore x.R (avInt (f (0 + ii) 3)) (avInt (f (0 + ii) 4)) (avInt (f (0 + ii) 5)) (avInt (f (0 + ii) 6))) x.n x.O).R.D.W i),
 Both (MS.mk (memPut x.S.M (avInt (f (0 + ii) 3)) (avInt (f (0 + ii) 4)) (avInt (f (0 + ii) 5)) (avInt (f (0 + ii) 6))) (IntKind.i64.wrap (x.S.st + 1)) (LS.mk 2 (avInt (f (0 + ii) 3)) (avInt (f (0 + ii) 4)) (avInt (f (0 + ii) 5)) (mget x.S.M (key (avInt (f (0 + ii) 3)) (avInt (f (0 + ii) 4)) (avInt (f (0 + ii) 5)))) (memIs x.S.M (avInt (f (0 + ii) 3)) (avInt (f (0 + ii) 4)) (avInt (f (0 + ii) 5)) (avInt (f (0 + ii) 6))) false)) (mkR (dPut (dOf x.R.D.n (wdF x.R.D.W)) (avInt (f (0 + ii) 3)) (avInt (f (0 + ii) 4)) (avInt (f (0 + ii) 5)) (avInt (f (0 + ii) 6))).n (wdF (dPut (dOf x.R.D.n (wdF x.R.D.W)) (avInt (f (0 + ii) 3)) (avInt (f (0 + ii) 4)) (avInt (f (0 + ii) 5)) (avInt (f (0 + ii) 6))).W) (IntKind.i64.wrap (x.R.st + 1)) (LS.mk 2 (avInt (f (0 + ii) 3)) (avInt (f (0 + ii) 4)) (avInt (f (0 + ii) 5)) (dWord (dOf x.R.D.n (wdF x.R.D.W)) (avInt (f (0 + ii) 3)) (avInt (f (0 + ii) 4)) (avInt (f (0 + ii) 5))) (dWord (dPut (dOf x.R.D.n (wdF x.R.D.W)) (avInt (f (0 + ii) 3)) (avInt (f (0 + ii) 4)) (avInt (f (0 + ii) 5)) (avInt (f (0 + ii) 6))) (avInt (f (0 + ii) 3)) (avInt (f (0 + ii) 4)) (avInt (f (0 + ii) 5))) false)),
 decide ((IntKind.i64.wrap (avInt (f (0 + ii) 0))).tmod 10 < 4) = false,
 x.R.D.n ≤ x.R.D.n,
 x.R.D.n ≤ 100000,
 0 ≤ avInt (f (0 + ii) 3),
 ((IntKind.i64.wrap (avInt (f (0 + ii) 0))).tmod 10 == 4) = true,
 ((IntKind.i64.wrap (avInt (f (0 + ii) 0))).tmod 10 == 3) = false,
 ((IntKind.i64.wrap (avInt (f (0 + ii) 0))).tmod 10 == 2) = false,
 ((IntKind.i64.wrap (avInt (f (0 + ii) 0))).tmod 10 == 1) = false,
 ((IntKind.i64.wrap (avInt (f (0 + ii) 0))).tmod 10 == 0) = false,
 (0 + ii).blt m = true,
 (ii.blt m && decide (0 ≤ Int.ofNat ii)) = true,
 decide (Int.ofNat ii < Int.ofNat m) = true]) := by kernel_rfl
theorem rg5_1 (m : Nat) (f : Nat → Nat → AV) (q : Nat) (h : Nat → Nat → AV) (ii : Nat) (x : RT) : roundB ERg 3000 rgL (h0F rgF (rgU m f q h)) [(8, Src.nm 8), (9, Src.nm 9)] (locSt rgF (rgT m f ii x) false (rMb (x.O x.n)) x.n []) [Hint.b true, Hint.b false, Hint.b false, Hint.b false, Hint.b false, Hint.b false, Hint.node [(3, [Hint.b false])], Hint.b false] (locSt rgF (rgT m f (ii + 1) x) false (rMb (x.O x.n)) x.n []) =
 some (Ex.norm, [(0 : Nat) = 0,
 m = m,
 (none : Option Nat) = none,
 (0 : Nat) = 0,
 (0 : Nat) = 0,
 (0 : Nat) = 0,
 x.n = x.n,
 (none : Option Nat) = none,
 IntKind.i64.wrap (Int.ofNat ii + 1) = Int.ofNat (ii + 1),
 false = false,
 (rgT m f (ii + 1) x).n ≤ (rgT m f ii x).n,
 ∀ (i : Nat), i < (rgT m f (ii + 1) x).n → rowV (CM.mk 8 6703903964971298549787012499102923063739682910296196688861780721860882015036773488400937149083451713845015929093243025426876941405973284973216824503042048 [(8, Src.nm 8), (9, Src.nm 9)]) rgF.sh 0 (lrow 6703903964971298549787012499102923063739682910296196688861780721860882015036773488400937149083451713845015929093243025426876941405973284973216824503042048 2 (rgT m f ii x).M x.n i) (lrow 6703903964971298549787012499102923063739682910296196688861780721860882015036773488400937149083451713845015929093243025426876941405973284973216824503042048 2 (rgT m f (ii + 1) x).M x.n i),
 (0 : Nat) = 0,
 (0 : Nat) = 0,
 (0 : Nat) = 0,
 (0 : Nat) = 0,
 true = true,
 m ≤ m,
 f = f ∧ plainSh arSh = true ∨ ∀ (i : Nat), i < m → rowOb arSh 0 (f i) (f i),
 x.S.st = x.S.st,
 x.S.L.c = x.S.L.c,
 x.S.L.k = x.S.L.k,
 x.S.L.a = x.S.L.a,
 x.S.L.f = x.S.L.f,
 x.S.L.w = x.S.L.w,
 x.S.L.i = x.S.L.i,
 x.S.L.d = x.S.L.d,
 ∀ (k : List Int), x.S.M k = x.S.M k,
 (0 : Nat) = 0,
 x.R.D.n = x.R.D.n,
 (none : Option Nat) = none,
 x.R.st = x.R.st,
 x.R.L.c = x.R.L.c,
 x.R.L.k = x.R.L.k,
 x.R.L.a = x.R.L.a,
 x.R.L.f = x.R.L.f,
 x.R.L.w = x.R.L.w,
 x.R.L.i = x.R.L.i,
 x.R.L.d = x.R.L.d,
 false = false,
 x.R.D.n ≤ x.R.D.n,
 wdF x.R.D.W = wdF x.R.D.W ∧ plainSh wSh = true ∨ ∀ (i : Nat), i < x.R.D.n → rowOb wSh 0 (wdF x.R.D.W i) (wdF x.R.D.W i),
 Both x.S x.R,
 decide ((IntKind.i64.wrap (avInt (f (0 + ii) 0))).tmod 10 < 4) = false,
 decide (Int.ofNat x.n > 0) = false,
 ((IntKind.i64.wrap (avInt (f (0 + ii) 0))).tmod 10 == 4) = false,
 ((IntKind.i64.wrap (avInt (f (0 + ii) 0))).tmod 10 == 3) = false,
 ((IntKind.i64.wrap (avInt (f (0 + ii) 0))).tmod 10 == 2) = false,
 ((IntKind.i64.wrap (avInt (f (0 + ii) 0))).tmod 10 == 1) = false,
 ((IntKind.i64.wrap (avInt (f (0 + ii) 0))).tmod 10 == 0) = false,
 (0 + ii).blt m = true,
 (ii.blt m && decide (0 ≤ Int.ofNat ii)) = true,
 decide (Int.ofNat ii < Int.ofNat m) = true]) := by kernel_rfl
theorem rg6_1 (m : Nat) (f : Nat → Nat → AV) (q : Nat) (h : Nat → Nat → AV) (ii : Nat) (x : RT) (j : Nat) (av th hi nw e h2 : Int) (dn : Bool) : roundB ERg 3000 rgL (h0F rgF (rgU m f q h)) [(8, Src.nm 8), (9, Src.nm 1534401847451316501568682670387937102601550959082686620070292828795062717064691197601532855777767573664478133184793783285570589005883777993747747308508), (900, Src.nm 900), (901, Src.nm 901)] (locSt rgF (rgT m f ii x) true (rMb (RO.mk 0 av th hi nw e h2 dn)) j []) [Hint.b true, Hint.b false, Hint.b false, Hint.b false, Hint.b false, Hint.b false, Hint.node [(3, [Hint.b true]), (13, [Hint.a (AV.ptr 900 0 0), Hint.a AV.nilp, Hint.a AV.nilp, Hint.a AV.nilp, Hint.a (AV.ptr 901 0 0)])], Hint.b false] (locSt rgF (rgT m f (ii + 1) (rtDo2 x j (RO.mk 0 av th hi nw e h2 dn))) true (rMb (roO x.S (RO.mk 0 av th hi nw e h2 dn))) j []) =
 some (Ex.norm, [(0 : Nat) = 0,
 m = m,
 (none : Option Nat) = none,
 (0 : Nat) = 0,
 (0 : Nat) = 0,
 (0 : Nat) = 0,
 x.n = (rtDo2 x j (RO.mk 0 av th hi nw e h2 dn)).n,
 (none : Option Nat) = none,
 IntKind.i64.wrap (Int.ofNat ii + 1) = Int.ofNat (ii + 1),
 rA (RO.mk 0 av th hi nw e h2 dn).av = (roO x.S (RO.mk 0 av th hi nw e h2 dn)).av,
 (RO.mk 0 av th hi nw e h2 dn).th = (roO x.S (RO.mk 0 av th hi nw e h2 dn)).th,
 rH0 x.S (RO.mk 0 av th hi nw e h2 dn).av (RO.mk 0 av th hi nw e h2 dn).hi = (roO x.S (RO.mk 0 av th hi nw e h2 dn)).hi,
 (0 : Int) = 0,
 (RO.mk 0 av th hi nw e h2 dn).th = (roO x.S (RO.mk 0 av th hi nw e h2 dn)).th,
 rl0 (rA (RO.mk 0 av th hi nw e h2 dn).av) = rl0 (roO x.S (RO.mk 0 av th hi nw e h2 dn)).av,
 rG0 (rA (RO.mk 0 av th hi nw e h2 dn).av) (rH0 x.S (RO.mk 0 av th hi nw e h2 dn).av (RO.mk 0 av th hi nw e h2 dn).hi) = rG0 (roO x.S (RO.mk 0 av th hi nw e h2 dn)).av (roO x.S (RO.mk 0 av th hi nw e h2 dn)).hi,
 (RO.mk 0 av th hi nw e h2 dn).dn = (roO x.S (RO.mk 0 av th hi nw e h2 dn)).dn,
 rE x.S 3 (RO.mk 0 av th hi nw e h2 dn).av (RO.mk 0 av th hi nw e h2 dn).e = (roO x.S (RO.mk 0 av th hi nw e h2 dn)).e,
 false = false,
 (rgT m f (ii + 1) (rtDo2 x j (RO.mk 0 av th hi nw e h2 dn))).n ≤ (rgT m f ii x).n,
 ∀ (i : Nat), i < (rgT m f (ii + 1) (rtDo2 x j (RO.mk 0 av th hi nw e h2 dn))).n → rowV (CM.mk 8 6703903964971298549787012499102923063739682910296196688861780721860882015036773488400937149083451713845015929093243025426876941405973284973216824503042048 [(8, Src.nm 8), (9, Src.nm 1534401847451316501568682670387937102601550959082686620070292828795062717064691197601532855777767573664478133184793783285570589005883777993747747308508), (900, Src.nm 900), (901, Src.nm 901)]) rgF.sh 0 (lrow 6703903964971298549787012499102923063739682910296196688861780721860882015036773488400937149083451713845015929093243025426876941405973284973216824503042048 2 (rgT m f ii x).M j i) (lrow 6703903964971298549787012499102923063739682910296196688861780721860882015036773488400937149083451713845015929093243025426876941405973284973216824503042048 2 (rgT m f (ii + 1) (rtDo2 x j (RO.mk 0 av th hi nw e h2 dn))).M j i),
 (0 : Nat) = 0,
 (0 : Nat) = 0,
 (0 : Nat) = 0,
 (0 : Nat) = 0,
 true = true,
 m ≤ m,
 f = f ∧ plainSh arSh = true ∨ ∀ (i : Nat), i < m → rowOb arSh 0 (f i) (f i),
 (rS0 x.S (RO.mk 0 av th hi nw e h2 dn).av (RO.mk 0 av th hi nw e h2 dn).th (RO.mk 0 av th hi nw e h2 dn).hi).st = (rtDo2 x j (RO.mk 0 av th hi nw e h2 dn)).S.st,
 (rS0 x.S (RO.mk 0 av th hi nw e h2 dn).av (RO.mk 0 av th hi nw e h2 dn).th (RO.mk 0 av th hi nw e h2 dn).hi).L.c = (rtDo2 x j (RO.mk 0 av th hi nw e h2 dn)).S.L.c,
 (rS0 x.S (RO.mk 0 av th hi nw e h2 dn).av (RO.mk 0 av th hi nw e h2 dn).th (RO.mk 0 av th hi nw e h2 dn).hi).L.k = (rtDo2 x j (RO.mk 0 av th hi nw e h2 dn)).S.L.k,
 (rS0 x.S (RO.mk 0 av th hi nw e h2 dn).av (RO.mk 0 av th hi nw e h2 dn).th (RO.mk 0 av th hi nw e h2 dn).hi).L.a = (rtDo2 x j (RO.mk 0 av th hi nw e h2 dn)).S.L.a,
 (rS0 x.S (RO.mk 0 av th hi nw e h2 dn).av (RO.mk 0 av th hi nw e h2 dn).th (RO.mk 0 av th hi nw e h2 dn).hi).L.f = (rtDo2 x j (RO.mk 0 av th hi nw e h2 dn)).S.L.f,
 (rS0 x.S (RO.mk 0 av th hi nw e h2 dn).av (RO.mk 0 av th hi nw e h2 dn).th (RO.mk 0 av th hi nw e h2 dn).hi).L.w = (rtDo2 x j (RO.mk 0 av th hi nw e h2 dn)).S.L.w,
 (rS0 x.S (RO.mk 0 av th hi nw e h2 dn).av (RO.mk 0 av th hi nw e h2 dn).th (RO.mk 0 av th hi nw e h2 dn).hi).L.i = (rtDo2 x j (RO.mk 0 av th hi nw e h2 dn)).S.L.i,
 (rS0 x.S (RO.mk 0 av th hi nw e h2 dn).av (RO.mk 0 av th hi nw e h2 dn).th (RO.mk 0 av th hi nw e h2 dn).hi).L.d = (rtDo2 x j (RO.mk 0 av th hi nw e h2 dn)).S.L.d,
 ∀ (k : List Int), (rS0 x.S (RO.mk 0 av th hi nw e h2 dn).av (RO.mk 0 av th hi nw e h2 dn).th (RO.mk 0 av th hi nw e h2 dn).hi).M k = (rtDo2 x j (RO.mk 0 av th hi nw e h2 dn)).S.M k,
 (0 : Nat) = 0,
 (rR0 x.R (RO.mk 0 av th hi nw e h2 dn).av (RO.mk 0 av th hi nw e h2 dn).th (RO.mk 0 av th hi nw e h2 dn).hi).D.n = (rtDo2 x j (RO.mk 0 av th hi nw e h2 dn)).R.D.n,
 (none : Option Nat) = none,
 (rR0 x.R (RO.mk 0 av th hi nw e h2 dn).av (RO.mk 0 av th hi nw e h2 dn).th (RO.mk 0 av th hi nw e h2 dn).hi).st = (rtDo2 x j (RO.mk 0 av th hi nw e h2 dn)).R.st,
 (rR0 x.R (RO.mk 0 av th hi nw e h2 dn).av (RO.mk 0 av th hi nw e h2 dn).th (RO.mk 0 av th hi nw e h2 dn).hi).L.c = (rtDo2 x j (RO.mk 0 av th hi nw e h2 dn)).R.L.c,
 (rR0 x.R (RO.mk 0 av th hi nw e h2 dn).av (RO.mk 0 av th hi nw e h2 dn).th (RO.mk 0 av th hi nw e h2 dn).hi).L.k = (rtDo2 x j (RO.mk 0 av th hi nw e h2 dn)).R.L.k,
 (rR0 x.R (RO.mk 0 av th hi nw e h2 dn).av (RO.mk 0 av th hi nw e h2 dn).th (RO.mk 0 av th hi nw e h2 dn).hi).L.a = (rtDo2 x j (RO.mk 0 av th hi nw e h2 dn)).R.L.a,
 (rR0 x.R (RO.mk 0 av th hi nw e h2 dn).av (RO.mk 0 av th hi nw e h2 dn).th (RO.mk 0 av th hi nw e h2 dn).hi).L.f = (rtDo2 x j (RO.mk 0 av th hi nw e h2 dn)).R.L.f,
 (rR0 x.R (RO.mk 0 av th hi nw e h2 dn).av (RO.mk 0 av th hi nw e h2 dn).th (RO.mk 0 av th hi nw e h2 dn).hi).L.w = (rtDo2 x j (RO.mk 0 av th hi nw e h2 dn)).R.L.w,
 (rR0 x.R (RO.mk 0 av th hi nw e h2 dn).av (RO.mk 0 av th hi nw e h2 dn).th (RO.mk 0 av th hi nw e h2 dn).hi).L.i = (rtDo2 x j (RO.mk 0 av th hi nw e h2 dn)).R.L.i,
 (rR0 x.R (RO.mk 0 av th hi nw e h2 dn).av (RO.mk 0 av th hi nw e h2 dn).th (RO.mk 0 av th hi nw e h2 dn).hi).L.d = (rtDo2 x j (RO.mk 0 av th hi nw e h2 dn)).R.L.d,
 false = false,
 (rtDo2 x j (RO.mk 0 av th hi nw e h2 dn)).R.D.n ≤ (rR0 x.R (RO.mk 0 av th hi nw e h2 dn).av (RO.mk 0 av th hi nw e h2 dn).th (RO.mk 0 av th hi nw e h2 dn).hi).D.n,
 wdF (rtDo2 x j (RO.mk 0 av th hi nw e h2 dn)).R.D.W = wdF (rR0 x.R (RO.mk 0 av th hi nw e h2 dn).av (RO.mk 0 av th hi nw e h2 dn).th (RO.mk 0 av th hi nw e h2 dn).hi).D.W ∧ plainSh wSh = true ∨ ∀ (i : Nat), i < (rtDo2 x j (RO.mk 0 av th hi nw e h2 dn)).R.D.n → rowOb wSh 0 (wdF (rR0 x.R (RO.mk 0 av th hi nw e h2 dn).av (RO.mk 0 av th hi nw e h2 dn).th (RO.mk 0 av th hi nw e h2 dn).hi).D.W i) (wdF (rtDo2 x j (RO.mk 0 av th hi nw e h2 dn)).R.D.W i),
 Both (rS0 x.S (RO.mk 0 av th hi nw e h2 dn).av (RO.mk 0 av th hi nw e h2 dn).th (RO.mk 0 av th hi nw e h2 dn).hi) (rR0 x.R (RO.mk 0 av th hi nw e h2 dn).av (RO.mk 0 av th hi nw e h2 dn).th (RO.mk 0 av th hi nw e h2 dn).hi),
 decide ((IntKind.i64.wrap (avInt (f (0 + ii) 0))).tmod 10 < 4) = false,
 x.R.D.n ≤ x.R.D.n,
 x.R.D.n ≤ 100000,
 Both x.S x.R,
 ∀ (k : List Int), 0 ≤ mget x.S.M k ∧ mget x.S.M k < 18446744073709551616,
 (0 : Int) = 0,
 (RO.mk 0 av th hi nw e h2 dn).th = (RO.mk 0 av th hi nw e h2 dn).th,
 (RO.mk 0 av th hi nw e h2 dn).av = 0 ∨ (RO.mk 0 av th hi nw e h2 dn).av = 1 ∨ (RO.mk 0 av th hi nw e h2 dn).av = 2 ∨ (RO.mk 0 av th hi nw e h2 dn).av = 3,
 rl0 (RO.mk 0 av th hi nw e h2 dn).av = rl0 (RO.mk 0 av th hi nw e h2 dn).av,
 rG0 (RO.mk 0 av th hi nw e h2 dn).av (RO.mk 0 av th hi nw e h2 dn).hi = rG0 (RO.mk 0 av th hi nw e h2 dn).av (RO.mk 0 av th hi nw e h2 dn).hi,
 (RO.mk 0 av th hi nw e h2 dn).av = 1 ∨ (RO.mk 0 av th hi nw e h2 dn).av = 2 → (RO.mk 0 av th hi nw e h2 dn).hi = IntKind.u64.wrap ((RO.mk 0 av th hi nw e h2 dn).e + 1),
 lrow 6703903964971298549787012499102923063739682910296196688861780721860882015036773488400937149083451713845015929093243025426876941405973284973216824503042048 2 (rgT m f ii x).M j (0 + ((IntKind.u64.wrap (avInt (f (0 + ii) 1))).tmod (IntKind.u64.wrap (Int.ofNat x.n))).toNat) 4 = AV.ptr 901 0 0,
 lrow 6703903964971298549787012499102923063739682910296196688861780721860882015036773488400937149083451713845015929093243025426876941405973284973216824503042048 2 (rgT m f ii x).M j (0 + ((IntKind.u64.wrap (avInt (f (0 + ii) 1))).tmod (IntKind.u64.wrap (Int.ofNat x.n))).toNat) 3 = AV.nilp,
 lrow 6703903964971298549787012499102923063739682910296196688861780721860882015036773488400937149083451713845015929093243025426876941405973284973216824503042048 2 (rgT m f ii x).M j (0 + ((IntKind.u64.wrap (avInt (f (0 + ii) 1))).tmod (IntKind.u64.wrap (Int.ofNat x.n))).toNat) 2 = AV.nilp,
 lrow 6703903964971298549787012499102923063739682910296196688861780721860882015036773488400937149083451713845015929093243025426876941405973284973216824503042048 2 (rgT m f ii x).M j (0 + ((IntKind.u64.wrap (avInt (f (0 + ii) 1))).tmod (IntKind.u64.wrap (Int.ofNat x.n))).toNat) 1 = AV.nilp,
 lrow 6703903964971298549787012499102923063739682910296196688861780721860882015036773488400937149083451713845015929093243025426876941405973284973216824503042048 2 (rgT m f ii x).M j (0 + ((IntKind.u64.wrap (avInt (f (0 + ii) 1))).tmod (IntKind.u64.wrap (Int.ofNat x.n))).toNat) 0 = AV.ptr 900 0 0,
 (0 + ((IntKind.u64.wrap (avInt (f (0 + ii) 1))).tmod (IntKind.u64.wrap (Int.ofNat x.n))).toNat).blt (rgT m f ii x).n = true,
 (((IntKind.u64.wrap (avInt (f (0 + ii) 1))).tmod (IntKind.u64.wrap (Int.ofNat x.n))).toNat.blt x.n && decide (0 ≤ (IntKind.u64.wrap (avInt (f (0 + ii) 1))).tmod (IntKind.u64.wrap (Int.ofNat x.n)))) = true,
 decide (IntKind.u64.wrap (Int.ofNat x.n) ≠ 0) = true,
 decide (Int.ofNat x.n > 0) = true,
 ((IntKind.i64.wrap (avInt (f (0 + ii) 0))).tmod 10 == 4) = false,
 ((IntKind.i64.wrap (avInt (f (0 + ii) 0))).tmod 10 == 3) = false,
 ((IntKind.i64.wrap (avInt (f (0 + ii) 0))).tmod 10 == 2) = false,
 ((IntKind.i64.wrap (avInt (f (0 + ii) 0))).tmod 10 == 1) = false,
 ((IntKind.i64.wrap (avInt (f (0 + ii) 0))).tmod 10 == 0) = false,
 (0 + ii).blt m = true,
 (ii.blt m && decide (0 ≤ Int.ofNat ii)) = true,
 decide (Int.ofNat ii < Int.ofNat m) = true]) := by kernel_rfl
theorem rg7_1 (m : Nat) (f : Nat → Nat → AV) (q : Nat) (h : Nat → Nat → AV) (ii : Nat) (x : RT) (j : Nat) (av th hi nw e h2 : Int) (dn : Bool) : roundB ERg 3000 rgL (h0F rgF (rgU m f q h)) [(8, Src.nm 8), (9, Src.nm 1534401847451316501568682670387937102601550959082686620070292828795062717064691197601532855777767573664478133184793783285570589005883777993747747308508), (900, Src.nm 900), (901, Src.nm 901)] (locSt rgF (rgT m f ii x) true (rMb (RO.mk 1 av th hi nw e h2 dn)) j []) [Hint.b true, Hint.b false, Hint.b false, Hint.b false, Hint.b false, Hint.b false, Hint.node [(3, [Hint.b true]), (13, [Hint.a AV.nilp, Hint.a (AV.ptr 900 0 0), Hint.a AV.nilp, Hint.a AV.nilp, Hint.a (AV.ptr 901 0 0)])], Hint.b false] (locSt rgF (rgT m f (ii + 1) (rtDo2 x j (RO.mk 1 av th hi nw e h2 dn))) true (rMb (roO x.S (RO.mk 1 av th hi nw e h2 dn))) j []) =
 some (Ex.norm, [(0 : Nat) = 0,
 m = m,
 (none : Option Nat) = none,
 (0 : Nat) = 0,
 (0 : Nat) = 0,
 (0 : Nat) = 0,
 x.n = (rtDo2 x j (RO.mk 1 av th hi nw e h2 dn)).n,
 (none : Option Nat) = none,
 IntKind.i64.wrap (Int.ofNat ii + 1) = Int.ofNat (ii + 1),
 rA (RO.mk 1 av th hi nw e h2 dn).av = (roO x.S (RO.mk 1 av th hi nw e h2 dn)).av,
 (RO.mk 1 av th hi nw e h2 dn).th = (roO x.S (RO.mk 1 av th hi nw e h2 dn)).th,
 (1 : Int) = 1,
 (RO.mk 1 av th hi nw e h2 dn).th = (roO x.S (RO.mk 1 av th hi nw e h2 dn)).th,
 rl1 (rA (RO.mk 1 av th hi nw e h2 dn).av) = rl1 (roO x.S (RO.mk 1 av th hi nw e h2 dn)).av,
 (RO.mk 1 av th hi nw e h2 dn).h2 = (roO x.S (RO.mk 1 av th hi nw e h2 dn)).h2,
 (RO.mk 1 av th hi nw e h2 dn).dn = (roO x.S (RO.mk 1 av th hi nw e h2 dn)).dn,
 (RO.mk 1 av th hi nw e h2 dn).e = (roO x.S (RO.mk 1 av th hi nw e h2 dn)).e,
 false = false,
 (rgT m f (ii + 1) (rtDo2 x j (RO.mk 1 av th hi nw e h2 dn))).n ≤ (rgT m f ii x).n,
 ∀ (i : Nat), i < (rgT m f (ii + 1) (rtDo2 x j (RO.mk 1 av th hi nw e h2 dn))).n → rowV (CM.mk 8 6703903964971298549787012499102923063739682910296196688861780721860882015036773488400937149083451713845015929093243025426876941405973284973216824503042048 [(8, Src.nm 8), (9, Src.nm 1534401847451316501568682670387937102601550959082686620070292828795062717064691197601532855777767573664478133184793783285570589005883777993747747308508), (900, Src.nm 900), (901, Src.nm 901)]) rgF.sh 0 (lrow 6703903964971298549787012499102923063739682910296196688861780721860882015036773488400937149083451713845015929093243025426876941405973284973216824503042048 2 (rgT m f ii x).M j i) (lrow 6703903964971298549787012499102923063739682910296196688861780721860882015036773488400937149083451713845015929093243025426876941405973284973216824503042048 2 (rgT m f (ii + 1) (rtDo2 x j (RO.mk 1 av th hi nw e h2 dn))).M j i),
 (0 : Nat) = 0,
 (0 : Nat) = 0,
 (0 : Nat) = 0,
 (0 : Nat) = 0,
 true = true,
 m ≤ m,
 f = f ∧ plainSh arSh = true ∨ ∀ (i : Nat), i < m → rowOb arSh 0 (f i) (f i),
 (rS1 x.S (RO.mk 1 av th hi nw e h2 dn).av (RO.mk 1 av th hi nw e h2 dn).th).st = (rtDo2 x j (RO.mk 1 av th hi nw e h2 dn)).S.st,
 (rS1 x.S (RO.mk 1 av th hi nw e h2 dn).av (RO.mk 1 av th hi nw e h2 dn).th).L.c = (rtDo2 x j (RO.mk 1 av th hi nw e h2 dn)).S.L.c,
 (rS1 x.S (RO.mk 1 av th hi nw e h2 dn).av (RO.mk 1 av th hi nw e h2 dn).th).L.k = (rtDo2 x j (RO.mk 1 av th hi nw e h2 dn)).S.L.k,
 (rS1 x.S (RO.mk 1 av th hi nw e h2 dn).av (RO.mk 1 av th hi nw e h2 dn).th).L.a = (rtDo2 x j (RO.mk 1 av th hi nw e h2 dn)).S.L.a,
 (rS1 x.S (RO.mk 1 av th hi nw e h2 dn).av (RO.mk 1 av th hi nw e h2 dn).th).L.f = (rtDo2 x j (RO.mk 1 av th hi nw e h2 dn)).S.L.f,
 (rS1 x.S (RO.mk 1 av th hi nw e h2 dn).av (RO.mk 1 av th hi nw e h2 dn).th).L.w = (rtDo2 x j (RO.mk 1 av th hi nw e h2 dn)).S.L.w,
 (rS1 x.S (RO.mk 1 av th hi nw e h2 dn).av (RO.mk 1 av th hi nw e h2 dn).th).L.i = (rtDo2 x j (RO.mk 1 av th hi nw e h2 dn)).S.L.i,
 (rS1 x.S (RO.mk 1 av th hi nw e h2 dn).av (RO.mk 1 av th hi nw e h2 dn).th).L.d = (rtDo2 x j (RO.mk 1 av th hi nw e h2 dn)).S.L.d,
 ∀ (k : List Int), (rS1 x.S (RO.mk 1 av th hi nw e h2 dn).av (RO.mk 1 av th hi nw e h2 dn).th).M k = (rtDo2 x j (RO.mk 1 av th hi nw e h2 dn)).S.M k,
 (0 : Nat) = 0,
 (rR1 x.R (RO.mk 1 av th hi nw e h2 dn).av (RO.mk 1 av th hi nw e h2 dn).th).D.n = (rtDo2 x j (RO.mk 1 av th hi nw e h2 dn)).R.D.n,
 (none : Option Nat) = none,
 (rR1 x.R (RO.mk 1 av th hi nw e h2 dn).av (RO.mk 1 av th hi nw e h2 dn).th).st = (rtDo2 x j (RO.mk 1 av th hi nw e h2 dn)).R.st,
 (rR1 x.R (RO.mk 1 av th hi nw e h2 dn).av (RO.mk 1 av th hi nw e h2 dn).th).L.c = (rtDo2 x j (RO.mk 1 av th hi nw e h2 dn)).R.L.c,
 (rR1 x.R (RO.mk 1 av th hi nw e h2 dn).av (RO.mk 1 av th hi nw e h2 dn).th).L.k = (rtDo2 x j (RO.mk 1 av th hi nw e h2 dn)).R.L.k,
 (rR1 x.R (RO.mk 1 av th hi nw e h2 dn).av (RO.mk 1 av th hi nw e h2 dn).th).L.a = (rtDo2 x j (RO.mk 1 av th hi nw e h2 dn)).R.L.a,
 (rR1 x.R (RO.mk 1 av th hi nw e h2 dn).av (RO.mk 1 av th hi nw e h2 dn).th).L.f = (rtDo2 x j (RO.mk 1 av th hi nw e h2 dn)).R.L.f,
 (rR1 x.R (RO.mk 1 av th hi nw e h2 dn).av (RO.mk 1 av th hi nw e h2 dn).th).L.w = (rtDo2 x j (RO.mk 1 av th hi nw e h2 dn)).R.L.w,
 (rR1 x.R (RO.mk 1 av th hi nw e h2 dn).av (RO.mk 1 av th hi nw e h2 dn).th).L.i = (rtDo2 x j (RO.mk 1 av th hi nw e h2 dn)).R.L.i,
 (rR1 x.R (RO.mk 1 av th hi nw e h2 dn).av (RO.mk 1 av th hi nw e h2 dn).th).L.d = (rtDo2 x j (RO.mk 1 av th hi nw e h2 dn)).R.L.d,
 false = false,
 (rtDo2 x j (RO.mk 1 av th hi nw e h2 dn)).R.D.n ≤ (rR1 x.R (RO.mk 1 av th hi nw e h2 dn).av (RO.mk 1 av th hi nw e h2 dn).th).D.n,
 wdF (rtDo2 x j (RO.mk 1 av th hi nw e h2 dn)).R.D.W = wdF (rR1 x.R (RO.mk 1 av th hi nw e h2 dn).av (RO.mk 1 av th hi nw e h2 dn).th).D.W ∧ plainSh wSh = true ∨ ∀ (i : Nat), i < (rtDo2 x j (RO.mk 1 av th hi nw e h2 dn)).R.D.n → rowOb wSh 0 (wdF (rR1 x.R (RO.mk 1 av th hi nw e h2 dn).av (RO.mk 1 av th hi nw e h2 dn).th).D.W i) (wdF (rtDo2 x j (RO.mk 1 av th hi nw e h2 dn)).R.D.W i),
 Both (rS1 x.S (RO.mk 1 av th hi nw e h2 dn).av (RO.mk 1 av th hi nw e h2 dn).th) (rR1 x.R (RO.mk 1 av th hi nw e h2 dn).av (RO.mk 1 av th hi nw e h2 dn).th),
 decide ((IntKind.i64.wrap (avInt (f (0 + ii) 0))).tmod 10 < 4) = false,
 x.R.D.n ≤ x.R.D.n,
 x.R.D.n ≤ 100000,
 Both x.S x.R,
 ∀ (k : List Int), 0 ≤ mget x.S.M k ∧ mget x.S.M k < 18446744073709551616,
 (1 : Int) = 1,
 (RO.mk 1 av th hi nw e h2 dn).th = (RO.mk 1 av th hi nw e h2 dn).th,
 (RO.mk 1 av th hi nw e h2 dn).av = 0 ∨ (RO.mk 1 av th hi nw e h2 dn).av = 1 ∨ (RO.mk 1 av th hi nw e h2 dn).av = 2,
 rl1 (RO.mk 1 av th hi nw e h2 dn).av = rl1 (RO.mk 1 av th hi nw e h2 dn).av,
 lrow 6703903964971298549787012499102923063739682910296196688861780721860882015036773488400937149083451713845015929093243025426876941405973284973216824503042048 2 (rgT m f ii x).M j (0 + ((IntKind.u64.wrap (avInt (f (0 + ii) 1))).tmod (IntKind.u64.wrap (Int.ofNat x.n))).toNat) 4 = AV.ptr 901 0 0,
 lrow 6703903964971298549787012499102923063739682910296196688861780721860882015036773488400937149083451713845015929093243025426876941405973284973216824503042048 2 (rgT m f ii x).M j (0 + ((IntKind.u64.wrap (avInt (f (0 + ii) 1))).tmod (IntKind.u64.wrap (Int.ofNat x.n))).toNat) 3 = AV.nilp,
 lrow 6703903964971298549787012499102923063739682910296196688861780721860882015036773488400937149083451713845015929093243025426876941405973284973216824503042048 2 (rgT m f ii x).M j (0 + ((IntKind.u64.wrap (avInt (f (0 + ii) 1))).tmod (IntKind.u64.wrap (Int.ofNat x.n))).toNat) 2 = AV.nilp,
 lrow 6703903964971298549787012499102923063739682910296196688861780721860882015036773488400937149083451713845015929093243025426876941405973284973216824503042048 2 (rgT m f ii x).M j (0 + ((IntKind.u64.wrap (avInt (f (0 + ii) 1))).tmod (IntKind.u64.wrap (Int.ofNat x.n))).toNat) 1 = AV.ptr 900 0 0,
 lrow 6703903964971298549787012499102923063739682910296196688861780721860882015036773488400937149083451713845015929093243025426876941405973284973216824503042048 2 (rgT m f ii x).M j (0 + ((IntKind.u64.wrap (avInt (f (0 + ii) 1))).tmod (IntKind.u64.wrap (Int.ofNat x.n))).toNat) 0 = AV.nilp,
 (0 + ((IntKind.u64.wrap (avInt (f (0 + ii) 1))).tmod (IntKind.u64.wrap (Int.ofNat x.n))).toNat).blt (rgT m f ii x).n = true,
 (((IntKind.u64.wrap (avInt (f (0 + ii) 1))).tmod (IntKind.u64.wrap (Int.ofNat x.n))).toNat.blt x.n && decide (0 ≤ (IntKind.u64.wrap (avInt (f (0 + ii) 1))).tmod (IntKind.u64.wrap (Int.ofNat x.n)))) = true,
 decide (IntKind.u64.wrap (Int.ofNat x.n) ≠ 0) = true,
 decide (Int.ofNat x.n > 0) = true,
 ((IntKind.i64.wrap (avInt (f (0 + ii) 0))).tmod 10 == 4) = false,
 ((IntKind.i64.wrap (avInt (f (0 + ii) 0))).tmod 10 == 3) = false,
 ((IntKind.i64.wrap (avInt (f (0 + ii) 0))).tmod 10 == 2) = false,
 ((IntKind.i64.wrap (avInt (f (0 + ii) 0))).tmod 10 == 1) = false,
 ((IntKind.i64.wrap (avInt (f (0 + ii) 0))).tmod 10 == 0) = false,
 (0 + ii).blt m = true,
 (ii.blt m && decide (0 ≤ Int.ofNat ii)) = true,
 decide (Int.ofNat ii < Int.ofNat m) = true]) := by kernel_rfl
theorem rg8_1 (m : Nat) (f : Nat → Nat → AV) (q : Nat) (h : Nat → Nat → AV) (ii : Nat) (x : RT) (j : Nat) (av th hi nw e h2 : Int) (dn : Bool) : roundB ERg 3000 rgL (h0F rgF (rgU m f q h)) [(8, Src.nm 8), (9, Src.nm 1534401847451316501568682670387937102601550959082686620070292828795062717064691197601532855777767573664478133184793783285570589005883777993747747308508), (900, Src.nm 900), (901, Src.nm 901)] (locSt rgF (rgT m f ii x) true (rMb (RO.mk 2 av th hi nw e h2 dn)) j []) [Hint.b true, Hint.b false, Hint.b false, Hint.b false, Hint.b false, Hint.b false, Hint.node [(3, [Hint.b true]), (13, [Hint.a AV.nilp, Hint.a AV.nilp, Hint.a (AV.ptr 900 0 0), Hint.a AV.nilp, Hint.a (AV.ptr 901 0 0)])], Hint.b false] (locSt rgF (rgT m f (ii + 1) (rtDo2 x j (RO.mk 2 av th hi nw e h2 dn))) true (rMb (roO x.S (RO.mk 2 av th hi nw e h2 dn))) j []) =
 some (Ex.norm, [(0 : Nat) = 0,
 m = m,
 (none : Option Nat) = none,
 (0 : Nat) = 0,
 (0 : Nat) = 0,
 (0 : Nat) = 0,
 x.n = (rtDo2 x j (RO.mk 2 av th hi nw e h2 dn)).n,
 (none : Option Nat) = none,
 IntKind.i64.wrap (Int.ofNat ii + 1) = Int.ofNat (ii + 1),
 rA2 x.S (RO.mk 2 av th hi nw e h2 dn).av (RO.mk 2 av th hi nw e h2 dn).hi = (roO x.S (RO.mk 2 av th hi nw e h2 dn)).av,
 (RO.mk 2 av th hi nw e h2 dn).th = (roO x.S (RO.mk 2 av th hi nw e h2 dn)).th,
 rH2 (RO.mk 2 av th hi nw e h2 dn).av (RO.mk 2 av th hi nw e h2 dn).hi (RO.mk 2 av th hi nw e h2 dn).nw = (roO x.S (RO.mk 2 av th hi nw e h2 dn)).hi,
 rN2 x.S (RO.mk 2 av th hi nw e h2 dn).av (RO.mk 2 av th hi nw e h2 dn).nw = (roO x.S (RO.mk 2 av th hi nw e h2 dn)).nw,
 rD2 x.S (RO.mk 2 av th hi nw e h2 dn).av (RO.mk 2 av th hi nw e h2 dn).hi (RO.mk 2 av th hi nw e h2 dn).dn = (roO x.S (RO.mk 2 av th hi nw e h2 dn)).dn,
 (2 : Int) = 2,
 (RO.mk 2 av th hi nw e h2 dn).th = (roO x.S (RO.mk 2 av th hi nw e h2 dn)).th,
 rl1 (rA2 x.S (RO.mk 2 av th hi nw e h2 dn).av (RO.mk 2 av th hi nw e h2 dn).hi) = rl1 (roO x.S (RO.mk 2 av th hi nw e h2 dn)).av,
 rH2 (RO.mk 2 av th hi nw e h2 dn).av (RO.mk 2 av th hi nw e h2 dn).hi (RO.mk 2 av th hi nw e h2 dn).nw = (roO x.S (RO.mk 2 av th hi nw e h2 dn)).hi,
 rD2 x.S (RO.mk 2 av th hi nw e h2 dn).av (RO.mk 2 av th hi nw e h2 dn).hi (RO.mk 2 av th hi nw e h2 dn).dn = (roO x.S (RO.mk 2 av th hi nw e h2 dn)).dn,
 rE x.S 2 (RO.mk 2 av th hi nw e h2 dn).av (RO.mk 2 av th hi nw e h2 dn).e = (roO x.S (RO.mk 2 av th hi nw e h2 dn)).e,
 false = false,
 (rgT m f (ii + 1) (rtDo2 x j (RO.mk 2 av th hi nw e h2 dn))).n ≤ (rgT m f ii x).n,
 ∀ (i : Nat), i < (rgT m f (ii + 1) (rtDo2 x j (RO.mk 2 av th hi nw e h2 dn))).n → rowV (CM.mk 8 6703903964971298549787012499102923063739682910296196688861780721860882015036773488400937149083451713845015929093243025426876941405973284973216824503042048 [(8, Src.nm 8), (9, Src.nm 1534401847451316501568682670387937102601550959082686620070292828795062717064691197601532855777767573664478133184793783285570589005883777993747747308508), (900, Src.nm 900), (901, Src.nm 901)]) rgF.sh 0 (lrow 6703903964971298549787012499102923063739682910296196688861780721860882015036773488400937149083451713845015929093243025426876941405973284973216824503042048 2 (rgT m f ii x).M j i) (lrow 6703903964971298549787012499102923063739682910296196688861780721860882015036773488400937149083451713845015929093243025426876941405973284973216824503042048 2 (rgT m f (ii + 1) (rtDo2 x j (RO.mk 2 av th hi nw e h2 dn))).M j i),
 (0 : Nat) = 0,
 (0 : Nat) = 0,
 (0 : Nat) = 0,
 (0 : Nat) = 0,
 true = true,
 m ≤ m,
 f = f ∧ plainSh arSh = true ∨ ∀ (i : Nat), i < m → rowOb arSh 0 (f i) (f i),
 (rS2 x.S (RO.mk 2 av th hi nw e h2 dn).av (RO.mk 2 av th hi nw e h2 dn).th (RO.mk 2 av th hi nw e h2 dn).nw).st = (rtDo2 x j (RO.mk 2 av th hi nw e h2 dn)).S.st,
 (rS2 x.S (RO.mk 2 av th hi nw e h2 dn).av (RO.mk 2 av th hi nw e h2 dn).th (RO.mk 2 av th hi nw e h2 dn).nw).L.c = (rtDo2 x j (RO.mk 2 av th hi nw e h2 dn)).S.L.c,
 (rS2 x.S (RO.mk 2 av th hi nw e h2 dn).av (RO.mk 2 av th hi nw e h2 dn).th (RO.mk 2 av th hi nw e h2 dn).nw).L.k = (rtDo2 x j (RO.mk 2 av th hi nw e h2 dn)).S.L.k,
 (rS2 x.S (RO.mk 2 av th hi nw e h2 dn).av (RO.mk 2 av th hi nw e h2 dn).th (RO.mk 2 av th hi nw e h2 dn).nw).L.a = (rtDo2 x j (RO.mk 2 av th hi nw e h2 dn)).S.L.a,
 (rS2 x.S (RO.mk 2 av th hi nw e h2 dn).av (RO.mk 2 av th hi nw e h2 dn).th (RO.mk 2 av th hi nw e h2 dn).nw).L.f = (rtDo2 x j (RO.mk 2 av th hi nw e h2 dn)).S.L.f,
 (rS2 x.S (RO.mk 2 av th hi nw e h2 dn).av (RO.mk 2 av th hi nw e h2 dn).th (RO.mk 2 av th hi nw e h2 dn).nw).L.w = (rtDo2 x j (RO.mk 2 av th hi nw e h2 dn)).S.L.w,
 (rS2 x.S (RO.mk 2 av th hi nw e h2 dn).av (RO.mk 2 av th hi nw e h2 dn).th (RO.mk 2 av th hi nw e h2 dn).nw).L.i = (rtDo2 x j (RO.mk 2 av th hi nw e h2 dn)).S.L.i,
 (rS2 x.S (RO.mk 2 av th hi nw e h2 dn).av (RO.mk 2 av th hi nw e h2 dn).th (RO.mk 2 av th hi nw e h2 dn).nw).L.d = (rtDo2 x j (RO.mk 2 av th hi nw e h2 dn)).S.L.d,
 ∀ (k : List Int), (rS2 x.S (RO.mk 2 av th hi nw e h2 dn).av (RO.mk 2 av th hi nw e h2 dn).th (RO.mk 2 av th hi nw e h2 dn).nw).M k = (rtDo2 x j (RO.mk 2 av th hi nw e h2 dn)).S.M k,
 (0 : Nat) = 0,
 (rR2 x.R (RO.mk 2 av th hi nw e h2 dn).av (RO.mk 2 av th hi nw e h2 dn).th (RO.mk 2 av th hi nw e h2 dn).nw).D.n = (rtDo2 x j (RO.mk 2 av th hi nw e h2 dn)).R.D.n,
 (none : Option Nat) = none,
 (rR2 x.R (RO.mk 2 av th hi nw e h2 dn).av (RO.mk 2 av th hi nw e h2 dn).th (RO.mk 2 av th hi nw e h2 dn).nw).st = (rtDo2 x j (RO.mk 2 av th hi nw e h2 dn)).R.st,
 (rR2 x.R (RO.mk 2 av th hi nw e h2 dn).av (RO.mk 2 av th hi nw e h2 dn).th (RO.mk 2 av th hi nw e h2 dn).nw).L.c = (rtDo2 x j (RO.mk 2 av th hi nw e h2 dn)).R.L.c,
 (rR2 x.R (RO.mk 2 av th hi nw e h2 dn).av (RO.mk 2 av th hi nw e h2 dn).th (RO.mk 2 av th hi nw e h2 dn).nw).L.k = (rtDo2 x j (RO.mk 2 av th hi nw e h2 dn)).R.L.k,
 (rR2 x.R (RO.mk 2 av th hi nw e h2 dn).av (RO.mk 2 av th hi nw e h2 dn).th (RO.mk 2 av th hi nw e h2 dn).nw).L.a = (rtDo2 x j (RO.mk 2 av th hi nw e h2 dn)).R.L.a,
 (rR2 x.R (RO.mk 2 av th hi nw e h2 dn).av (RO.mk 2 av th hi nw e h2 dn).th (RO.mk 2 av th hi nw e h2 dn).nw).L.f = (rtDo2 x j (RO.mk 2 av th hi nw e h2 dn)).R.L.f,
 (rR2 x.R (RO.mk 2 av th hi nw e h2 dn).av (RO.mk 2 av th hi nw e h2 dn).th (RO.mk 2 av th hi nw e h2 dn).nw).L.w = (rtDo2 x j (RO.mk 2 av th hi nw e h2 dn)).R.L.w,
 (rR2 x.R (RO.mk 2 av th hi nw e h2 dn).av (RO.mk 2 av th hi nw e h2 dn).th (RO.mk 2 av th hi nw e h2 dn).nw).L.i = (rtDo2 x j (RO.mk 2 av th hi nw e h2 dn)).R.L.i,
 (rR2 x.R (RO.mk 2 av th hi nw e h2 dn).av (RO.mk 2 av th hi nw e h2 dn).th (RO.mk 2 av th hi nw e h2 dn).nw).L.d = (rtDo2 x j (RO.mk 2 av th hi nw e h2 dn)).R.L.d,
 false = false,
 (rtDo2 x j (RO.mk 2 av th hi nw e h2 dn)).R.D.n ≤ (rR2 x.R (RO.mk 2 av th hi nw e h2 dn).av (RO.mk 2 av th hi nw e h2 dn).th (RO.mk 2 av th hi nw e h2 dn).nw).D.n,
 wdF (rtDo2 x j (RO.mk 2 av th hi nw e h2 dn)).R.D.W = wdF (rR2 x.R (RO.mk 2 av th hi nw e h2 dn).av (RO.mk 2 av th hi nw e h2 dn).th (RO.mk 2 av th hi nw e h2 dn).nw).D.W ∧ plainSh wSh = true ∨ ∀ (i : Nat), i < (rtDo2 x j (RO.mk 2 av th hi nw e h2 dn)).R.D.n → rowOb wSh 0 (wdF (rR2 x.R (RO.mk 2 av th hi nw e h2 dn).av (RO.mk 2 av th hi nw e h2 dn).th (RO.mk 2 av th hi nw e h2 dn).nw).D.W i) (wdF (rtDo2 x j (RO.mk 2 av th hi nw e h2 dn)).R.D.W i),
 Both (rS2 x.S (RO.mk 2 av th hi nw e h2 dn).av (RO.mk 2 av th hi nw e h2 dn).th (RO.mk 2 av th hi nw e h2 dn).nw) (rR2 x.R (RO.mk 2 av th hi nw e h2 dn).av (RO.mk 2 av th hi nw e h2 dn).th (RO.mk 2 av th hi nw e h2 dn).nw),
 decide ((IntKind.i64.wrap (avInt (f (0 + ii) 0))).tmod 10 < 4) = false,
 x.R.D.n ≤ x.R.D.n,
 x.R.D.n ≤ 100000,
 Both x.S x.R,
 ∀ (k : List Int), 0 ≤ mget x.S.M k ∧ mget x.S.M k < 18446744073709551616,
 (2 : Int) = 2,
 (RO.mk 2 av th hi nw e h2 dn).th = (RO.mk 2 av th hi nw e h2 dn).th,
 (RO.mk 2 av th hi nw e h2 dn).av = 0 ∨ (RO.mk 2 av th hi nw e h2 dn).av = 1 ∨ (RO.mk 2 av th hi nw e h2 dn).av = 2,
 rl1 (RO.mk 2 av th hi nw e h2 dn).av = rl1 (RO.mk 2 av th hi nw e h2 dn).av,
 (RO.mk 2 av th hi nw e h2 dn).hi = (RO.mk 2 av th hi nw e h2 dn).hi,
 (RO.mk 2 av th hi nw e h2 dn).dn = (RO.mk 2 av th hi nw e h2 dn).dn,
 (RO.mk 2 av th hi nw e h2 dn).av = 1 → (RO.mk 2 av th hi nw e h2 dn).nw = IntKind.u64.wrap ((RO.mk 2 av th hi nw e h2 dn).e + 1),
 lrow 6703903964971298549787012499102923063739682910296196688861780721860882015036773488400937149083451713845015929093243025426876941405973284973216824503042048 2 (rgT m f ii x).M j (0 + ((IntKind.u64.wrap (avInt (f (0 + ii) 1))).tmod (IntKind.u64.wrap (Int.ofNat x.n))).toNat) 4 = AV.ptr 901 0 0,
 lrow 6703903964971298549787012499102923063739682910296196688861780721860882015036773488400937149083451713845015929093243025426876941405973284973216824503042048 2 (rgT m f ii x).M j (0 + ((IntKind.u64.wrap (avInt (f (0 + ii) 1))).tmod (IntKind.u64.wrap (Int.ofNat x.n))).toNat) 3 = AV.nilp,
 lrow 6703903964971298549787012499102923063739682910296196688861780721860882015036773488400937149083451713845015929093243025426876941405973284973216824503042048 2 (rgT m f ii x).M j (0 + ((IntKind.u64.wrap (avInt (f (0 + ii) 1))).tmod (IntKind.u64.wrap (Int.ofNat x.n))).toNat) 2 = AV.ptr 900 0 0,
 lrow 6703903964971298549787012499102923063739682910296196688861780721860882015036773488400937149083451713845015929093243025426876941405973284973216824503042048 2 (rgT m f ii x).M j (0 + ((IntKind.u64.wrap (avInt (f (0 + ii) 1))).tmod (IntKind.u64.wrap (Int.ofNat x.n))).toNat) 1 = AV.nilp,
 lrow 6703903964971298549787012499102923063739682910296196688861780721860882015036773488400937149083451713845015929093243025426876941405973284973216824503042048 2 (rgT m f ii x).M j (0 + ((IntKind.u64.wrap (avInt (f (0 + ii) 1))).tmod (IntKind.u64.wrap (Int.ofNat x.n))).toNat) 0 = AV.nilp,
 (0 + ((IntKind.u64.wrap (avInt (f (0 + ii) 1))).tmod (IntKind.u64.wrap (Int.ofNat x.n))).toNat).blt (rgT m f ii x).n = true,
 (((IntKind.u64.wrap (avInt (f (0 + ii) 1))).tmod (IntKind.u64.wrap (Int.ofNat x.n))).toNat.blt x.n && decide (0 ≤ (IntKind.u64.wrap (avInt (f (0 + ii) 1))).tmod (IntKind.u64.wrap (Int.ofNat x.n)))) = true,
 decide (IntKind.u64.wrap (Int.ofNat x.n) ≠ 0) = true,
 decide (Int.ofNat x.n > 0) = true,
 ((IntKind.i64.wrap (avInt (f (0 + ii) 0))).tmod 10 == 4) = false,
 ((IntKind.i64.wrap (avInt (f (0 + ii) 0))).tmod 10 == 3) = false,
 ((IntKind.i64.wrap (avInt (f (0 + ii) 0))).tmod 10 == 2) = false,
 ((IntKind.i64.wrap (avInt (f (0 + ii) 0))).tmod 10 == 1) = false,
 ((IntKind.i64.wrap (avInt (f (0 + ii) 0))).tmod 10 == 0) = false,
 (0 + ii).blt m = true,
 (ii.blt m && decide (0 ≤ Int.ofNat ii)) = true,
 decide (Int.ofNat ii < Int.ofNat m) = true]) := by kernel_rfl
theorem rg9_1 (m : Nat) (f : Nat → Nat → AV) (q : Nat) (h : Nat → Nat → AV) (ii : Nat) (x : RT) (j : Nat) (av th hi nw e h2 : Int) (dn : Bool) (kk : Nat) : roundB ERg 3000 rgL (h0F rgF (rgU m f q h)) [(8, Src.nm 8), (9, Src.nm 1534401847451316501568682670387937102601550959082686620070292828795062717064691197601532855777767573664478133184793783285570589005883777993747747308508), (900, Src.nm 900), (901, Src.nm 901)] (locSt rgF (rgT m f ii x) true (rMb (RO.mk (kk + 3) av th hi nw e h2 dn)) j []) [Hint.b true, Hint.b false, Hint.b false, Hint.b false, Hint.b false, Hint.b false, Hint.node [(3, [Hint.b true]), (13, [Hint.a AV.nilp, Hint.a AV.nilp, Hint.a AV.nilp, Hint.a (AV.ptr 900 0 0), Hint.a (AV.ptr 901 0 0)])], Hint.b false] (locSt rgF (rgT m f (ii + 1) (rtDo2 x j (RO.mk (kk + 3) av th hi nw e h2 dn))) true (rMb (roO x.S (RO.mk (kk + 3) av th hi nw e h2 dn))) j []) =
 some (Ex.norm, [(0 : Nat) = 0,
 m = m,
 (none : Option Nat) = none,
 (0 : Nat) = 0,
 (0 : Nat) = 0,
 (0 : Nat) = 0,
 x.n = (rtDo2 x j (RO.mk (kk + 3) av th hi nw e h2 dn)).n,
 (none : Option Nat) = none,
 IntKind.i64.wrap (Int.ofNat ii + 1) = Int.ofNat (ii + 1),
 rA (RO.mk (kk + 3) av th hi nw e h2 dn).av = (roO x.S (RO.mk (kk + 3) av th hi nw e h2 dn)).av,
 rE x.S 2 (RO.mk (kk + 3) av th hi nw e h2 dn).av (RO.mk (kk + 3) av th hi nw e h2 dn).e = (roO x.S (RO.mk (kk + 3) av th hi nw e h2 dn)).e,
 rD3 x.S (RO.mk (kk + 3) av th hi nw e h2 dn).av (RO.mk (kk + 3) av th hi nw e h2 dn).e (RO.mk (kk + 3) av th hi nw e h2 dn).dn = (roO x.S (RO.mk (kk + 3) av th hi nw e h2 dn)).dn,
 (3 : Int) = 3,
 (RO.mk (kk + 3) av th hi nw e h2 dn).th = (roO x.S (RO.mk (kk + 3) av th hi nw e h2 dn)).th,
 rl1 (rA (RO.mk (kk + 3) av th hi nw e h2 dn).av) = rl1 (roO x.S (RO.mk (kk + 3) av th hi nw e h2 dn)).av,
 (RO.mk (kk + 3) av th hi nw e h2 dn).h2 = (roO x.S (RO.mk (kk + 3) av th hi nw e h2 dn)).h2,
 rD3 x.S (RO.mk (kk + 3) av th hi nw e h2 dn).av (RO.mk (kk + 3) av th hi nw e h2 dn).e (RO.mk (kk + 3) av th hi nw e h2 dn).dn = (roO x.S (RO.mk (kk + 3) av th hi nw e h2 dn)).dn,
 rE x.S 2 (RO.mk (kk + 3) av th hi nw e h2 dn).av (RO.mk (kk + 3) av th hi nw e h2 dn).e = (roO x.S (RO.mk (kk + 3) av th hi nw e h2 dn)).e,
 false = false,
 (rgT m f (ii + 1) (rtDo2 x j (RO.mk (kk + 3) av th hi nw e h2 dn))).n ≤ (rgT m f ii x).n,
 ∀ (i : Nat), i < (rgT m f (ii + 1) (rtDo2 x j (RO.mk (kk + 3) av th hi nw e h2 dn))).n → rowV (CM.mk 8 6703903964971298549787012499102923063739682910296196688861780721860882015036773488400937149083451713845015929093243025426876941405973284973216824503042048 [(8, Src.nm 8), (9, Src.nm 1534401847451316501568682670387937102601550959082686620070292828795062717064691197601532855777767573664478133184793783285570589005883777993747747308508), (900, Src.nm 900), (901, Src.nm 901)]) rgF.sh 0 (lrow 6703903964971298549787012499102923063739682910296196688861780721860882015036773488400937149083451713845015929093243025426876941405973284973216824503042048 2 (rgT m f ii x).M j i) (lrow 6703903964971298549787012499102923063739682910296196688861780721860882015036773488400937149083451713845015929093243025426876941405973284973216824503042048 2 (rgT m f (ii + 1) (rtDo2 x j (RO.mk (kk + 3) av th hi nw e h2 dn))).M j i),
 (0 : Nat) = 0,
 (0 : Nat) = 0,
 (0 : Nat) = 0,
 (0 : Nat) = 0,
 true = true,
 m ≤ m,
 f = f ∧ plainSh arSh = true ∨ ∀ (i : Nat), i < m → rowOb arSh 0 (f i) (f i),
 (rS3 x.S (RO.mk (kk + 3) av th hi nw e h2 dn).av (RO.mk (kk + 3) av th hi nw e h2 dn).e).st = (rtDo2 x j (RO.mk (kk + 3) av th hi nw e h2 dn)).S.st,
 (rS3 x.S (RO.mk (kk + 3) av th hi nw e h2 dn).av (RO.mk (kk + 3) av th hi nw e h2 dn).e).L.c = (rtDo2 x j (RO.mk (kk + 3) av th hi nw e h2 dn)).S.L.c,
 (rS3 x.S (RO.mk (kk + 3) av th hi nw e h2 dn).av (RO.mk (kk + 3) av th hi nw e h2 dn).e).L.k = (rtDo2 x j (RO.mk (kk + 3) av th hi nw e h2 dn)).S.L.k,
 (rS3 x.S (RO.mk (kk + 3) av th hi nw e h2 dn).av (RO.mk (kk + 3) av th hi nw e h2 dn).e).L.a = (rtDo2 x j (RO.mk (kk + 3) av th hi nw e h2 dn)).S.L.a,
 (rS3 x.S (RO.mk (kk + 3) av th hi nw e h2 dn).av (RO.mk (kk + 3) av th hi nw e h2 dn).e).L.f = (rtDo2 x j (RO.mk (kk + 3) av th hi nw e h2 dn)).S.L.f,
 (rS3 x.S (RO.mk (kk + 3) av th hi nw e h2 dn).av (RO.mk (kk + 3) av th hi nw e h2 dn).e).L.w = (rtDo2 x j (RO.mk (kk + 3) av th hi nw e h2 dn)).S.L.w,
 (rS3 x.S (RO.mk (kk + 3) av th hi nw e h2 dn).av (RO.mk (kk + 3) av th hi nw e h2 dn).e).L.i = (rtDo2 x j (RO.mk (kk + 3) av th hi nw e h2 dn)).S.L.i,
 (rS3 x.S (RO.mk (kk + 3) av th hi nw e h2 dn).av (RO.mk (kk + 3) av th hi nw e h2 dn).e).L.d = (rtDo2 x j (RO.mk (kk + 3) av th hi nw e h2 dn)).S.L.d,
 ∀ (k : List Int), (rS3 x.S (RO.mk (kk + 3) av th hi nw e h2 dn).av (RO.mk (kk + 3) av th hi nw e h2 dn).e).M k = (rtDo2 x j (RO.mk (kk + 3) av th hi nw e h2 dn)).S.M k,
 (0 : Nat) = 0,
 (rR3 x.R (RO.mk (kk + 3) av th hi nw e h2 dn).av (RO.mk (kk + 3) av th hi nw e h2 dn).e).D.n = (rtDo2 x j (RO.mk (kk + 3) av th hi nw e h2 dn)).R.D.n,
 (none : Option Nat) = none,
 (rR3 x.R (RO.mk (kk + 3) av th hi nw e h2 dn).av (RO.mk (kk + 3) av th hi nw e h2 dn).e).st = (rtDo2 x j (RO.mk (kk + 3) av th hi nw e h2 dn)).R.st,
 (rR3 x.R (RO.mk (kk + 3) av th hi nw e h2 dn).av (RO.mk (kk + 3) av th hi nw e h2 dn).e).L.c = (rtDo2 x j (RO.mk (kk + 3) av th hi nw e h2 dn)).R.L.c,
 (rR3 x.R (RO.mk (kk + 3) av th hi nw e h2 dn).av (RO.mk (kk + 3) av th hi nw e h2 dn).e).L.k = (rtDo2 x j (RO.mk (kk + 3) av th hi nw e h2 dn)).R.L.k,
 (rR3 x.R (RO.mk (kk + 3) av th hi nw e h2 dn).av (RO.mk (kk + 3) av th hi nw e h2 dn).e).L.a = (rtDo2 x j (RO.mk (kk + 3) av th hi nw e h2 dn)).R.L.a,
 (rR3 x.R (RO.mk (kk + 3) av th hi nw e h2 dn).av (RO.mk (kk + 3) av th hi nw e h2 dn).e).L.f = (rtDo2 x j (RO.mk (kk + 3) av th hi nw e h2 dn)).R.L.f,
 (rR3 x.R (RO.mk (kk + 3) av th hi nw e h2 dn).av (RO.mk (kk + 3) av th hi nw e h2 dn).e).L.w = (rtDo2 x j (RO.mk (kk + 3) av th hi nw e h2 dn)).R.L.w,
 (rR3 x.R (RO.mk (kk + 3) av th hi nw e h2 dn).av (RO.mk (kk + 3) av th hi nw e h2 dn).e).L.i = (rtDo2 x j (RO.mk (kk + 3) av th hi nw e h2 dn)).R.L.i,
 (rR3 x.R (RO.mk (kk + 3) av th hi nw e h2 dn).av (RO.mk (kk + 3) av th hi nw e h2 dn).e).L.d = (rtDo2 x j (RO.mk (kk + 3) av th hi nw e h2 dn)).R.L.d,
 false = false,
 (rtDo2 x j (RO.mk (kk + 3) av th hi nw e h2 dn)).R.D.n ≤ (rR3 x.R (RO.mk (kk + 3) av th hi nw e h2 dn).av (RO.mk (kk + 3) av th hi nw e h2 dn).e).D.n,
 wdF (rtDo2 x j (RO.mk (kk + 3) av th hi nw e h2 dn)).R.D.W = wdF (rR3 x.R (RO.mk (kk + 3) av th hi nw e h2 dn).av (RO.mk (kk + 3) av th hi nw e h2 dn).e).D.W ∧ plainSh wSh = true ∨ ∀ (i : Nat), i < (rtDo2 x j (RO.mk (kk + 3) av th hi nw e h2 dn)).R.D.n → rowOb wSh 0 (wdF (rR3 x.R (RO.mk (kk + 3) av th hi nw e h2 dn).av (RO.mk (kk + 3) av th hi nw e h2 dn).e).D.W i) (wdF (rtDo2 x j (RO.mk (kk + 3) av th hi nw e h2 dn)).R.D.W i),
 Both (rS3 x.S (RO.mk (kk + 3) av th hi nw e h2 dn).av (RO.mk (kk + 3) av th hi nw e h2 dn).e) (rR3 x.R (RO.mk (kk + 3) av th hi nw e h2 dn).av (RO.mk (kk + 3) av th hi nw e h2 dn).e),
 decide ((IntKind.i64.wrap (avInt (f (0 + ii) 0))).tmod 10 < 4) = false,
 x.R.D.n ≤ x.R.D.n,
 x.R.D.n ≤ 100000,
 Both x.S x.R,
 ∀ (k : List Int), 0 ≤ mget x.S.M k ∧ mget x.S.M k < 18446744073709551616,
 (3 : Int) = 3,
 (RO.mk (kk + 3) av th hi nw e h2 dn).av = 0 ∨ (RO.mk (kk + 3) av th hi nw e h2 dn).av = 1 ∨ (RO.mk (kk + 3) av th hi nw e h2 dn).av = 2,
 rl1 (RO.mk (kk + 3) av th hi nw e h2 dn).av = rl1 (RO.mk (kk + 3) av th hi nw e h2 dn).av,
 (RO.mk (kk + 3) av th hi nw e h2 dn).e = (RO.mk (kk + 3) av th hi nw e h2 dn).e,
 (RO.mk (kk + 3) av th hi nw e h2 dn).dn = (RO.mk (kk + 3) av th hi nw e h2 dn).dn,
 lrow 6703903964971298549787012499102923063739682910296196688861780721860882015036773488400937149083451713845015929093243025426876941405973284973216824503042048 2 (rgT m f ii x).M j (0 + ((IntKind.u64.wrap (avInt (f (0 + ii) 1))).tmod (IntKind.u64.wrap (Int.ofNat x.n))).toNat) 4 = AV.ptr 901 0 0,
 lrow 6703903964971298549787012499102923063739682910296196688861780721860882015036773488400937149083451713845015929093243025426876941405973284973216824503042048 2 (rgT m f ii x).M j (0 + ((IntKind.u64.wrap (avInt (f (0 + ii) 1))).tmod (IntKind.u64.wrap (Int.ofNat x.n))).toNat) 3 = AV.ptr 900 0 0,
 lrow 6703903964971298549787012499102923063739682910296196688861780721860882015036773488400937149083451713845015929093243025426876941405973284973216824503042048 2 (rgT m f ii x).M j (0 + ((IntKind.u64.wrap (avInt (f (0 + ii) 1))).tmod (IntKind.u64.wrap (Int.ofNat x.n))).toNat) 2 = AV.nilp,
 lrow 6703903964971298549787012499102923063739682910296196688861780721860882015036773488400937149083451713845015929093243025426876941405973284973216824503042048 2 (rgT m f ii x).M j (0 + ((IntKind.u64.wrap (avInt (f (0 + ii) 1))).tmod (IntKind.u64.wrap (Int.ofNat x.n))).toNat) 1 = AV.nilp,
 lrow 6703903964971298549787012499102923063739682910296196688861780721860882015036773488400937149083451713845015929093243025426876941405973284973216824503042048 2 (rgT m f ii x).M j (0 + ((IntKind.u64.wrap (avInt (f (0 + ii) 1))).tmod (IntKind.u64.wrap (Int.ofNat x.n))).toNat) 0 = AV.nilp,
 (0 + ((IntKind.u64.wrap (avInt (f (0 + ii) 1))).tmod (IntKind.u64.wrap (Int.ofNat x.n))).toNat).blt (rgT m f ii x).n = true,
 (((IntKind.u64.wrap (avInt (f (0 + ii) 1))).tmod (IntKind.u64.wrap (Int.ofNat x.n))).toNat.blt x.n && decide (0 ≤ (IntKind.u64.wrap (avInt (f (0 + ii) 1))).tmod (IntKind.u64.wrap (Int.ofNat x.n)))) = true,
 decide (IntKind.u64.wrap (Int.ofNat x.n) ≠ 0) = true,
 decide (Int.ofNat x.n > 0) = true,
 ((IntKind.i64.wrap (avInt (f (0 + ii) 0))).tmod 10 == 4) = false,
 ((IntKind.i64.wrap (avInt (f (0 + ii) 0))).tmod 10 == 3) = false,
 ((IntKind.i64.wrap (avInt (f (0 + ii) 0))).tmod 10 == 2) = false,
 ((IntKind.i64.wrap (avInt (f (0 + ii) 0))).tmod 10 == 1) = false,
 ((IntKind.i64.wrap (avInt (f (0 + ii) 0))).tmod 10 == 0) = false,
 (0 + ii).blt m = true,
 (ii.blt m && decide (0 ≤ Int.ofNat ii)) = true,
 decide (Int.ofNat ii < Int.ofNat m) = true]) := by kernel_rfl
theorem rge_1 (m : Nat) (f : Nat → Nat → AV) (q : Nat) (h : Nat → Nat → AV) (ii : Nat) (x : RT) : roundB ERg 3000 rgL ((rgU m f q h).hp) [(9, Src.nm 9)] (locSt rgF (rgT m f ii x) false (rMb (x.O x.n)) x.n []) [Hint.b false] (rgX m f x.S x.R) =
 some (Ex.exit 0, [(0 : Nat) = 0,
 m = m,
 (none : Option Nat) = none,
 (0 : Nat) = 0,
 (0 : Nat) = 0,
 (0 : Nat) = 0,
 (0 : Nat) = 0,
 (0 : Nat) = 0,
 (0 : Nat) = 0,
 true = true,
 m ≤ m,
 f = f ∧ plainSh arSh = true ∨ ∀ (i : Nat), i < m → rowOb arSh 0 (f i) (f i),
 x.S.st = x.S.st,
 x.S.L.c = x.S.L.c,
 x.S.L.k = x.S.L.k,
 x.S.L.a = x.S.L.a,
 x.S.L.f = x.S.L.f,
 x.S.L.w = x.S.L.w,
 x.S.L.i = x.S.L.i,
 x.S.L.d = x.S.L.d,
 ∀ (k : List Int), x.S.M k = x.S.M k,
 (0 : Nat) = 0,
 x.R.D.n = x.R.D.n,
 (none : Option Nat) = none,
 x.R.st = x.R.st,
 x.R.L.c = x.R.L.c,
 x.R.L.k = x.R.L.k,
 x.R.L.a = x.R.L.a,
 x.R.L.f = x.R.L.f,
 x.R.L.w = x.R.L.w,
 x.R.L.i = x.R.L.i,
 x.R.L.d = x.R.L.d,
 false = false,
 x.R.D.n ≤ x.R.D.n,
 wdF x.R.D.W = wdF x.R.D.W ∧ plainSh wSh = true ∨ ∀ (i : Nat), i < x.R.D.n → rowOb wSh 0 (wdF x.R.D.W i) (wdF x.R.D.W i),
 decide (Int.ofNat ii < Int.ofNat m) = false]) := by kernel_rfl
theorem rgi_1 (m : Nat) (f : Nat → Nat → AV) (q : Nat) (h : Nat → Nat → AV) : castSt (h0F rgF (rgU m f q h)) [(8, Src.nil 5), (9, Src.nm 6)] (rgU m f q h) (locSt rgF (rgT m f 0 (rtN f h q 0)) false (Mb.mk [] []) 0 []) =
 some ([(0 : Nat) = 0,
 m = m,
 (none : Option Nat) = none,
 (0 : Nat) = 0,
 (0 : Nat) = 0,
 (0 : Nat) = 0,
 (0 : Nat) = 0,
 (none : Option Nat) = none,
 (0 : Int) = 0,
 (0 : Nat) = 0,
 (0 : Nat) = 0,
 (0 : Nat) = 0,
 (0 : Nat) = 0,
 (0 : Nat) = 0,
 true = true,
 m ≤ m,
 f = f ∧ plainSh arSh = true ∨ ∀ (i : Nat), i < m → rowOb arSh 0 (f i) (f i),
 (msN (bgW h) q).st = (rtN f h q 0).S.st,
 (msN (bgW h) q).L.c = (rtN f h q 0).S.L.c,
 (msN (bgW h) q).L.k = (rtN f h q 0).S.L.k,
 (msN (bgW h) q).L.a = (rtN f h q 0).S.L.a,
 (msN (bgW h) q).L.f = (rtN f h q 0).S.L.f,
 (msN (bgW h) q).L.w = (rtN f h q 0).S.L.w,
 (msN (bgW h) q).L.i = (rtN f h q 0).S.L.i,
 (msN (bgW h) q).L.d = (rtN f h q 0).S.L.d,
 ∀ (k : List Int), (msN (bgW h) q).M k = (rtN f h q 0).S.M k,
 (0 : Nat) = 0,
 (rsN (bgW h) q).D.n = (rtN f h q 0).R.D.n,
 (none : Option Nat) = none,
 (rsN (bgW h) q).st = (rtN f h q 0).R.st,
 (rsN (bgW h) q).L.c = (rtN f h q 0).R.L.c,
 (rsN (bgW h) q).L.k = (rtN f h q 0).R.L.k,
 (rsN (bgW h) q).L.a = (rtN f h q 0).R.L.a,
 (rsN (bgW h) q).L.f = (rtN f h q 0).R.L.f,
 (rsN (bgW h) q).L.w = (rtN f h q 0).R.L.w,
 (rsN (bgW h) q).L.i = (rtN f h q 0).R.L.i,
 (rsN (bgW h) q).L.d = (rtN f h q 0).R.L.d,
 false = false,
 (rtN f h q 0).R.D.n ≤ (rsN (bgW h) q).D.n,
 wdF (rtN f h q 0).R.D.W = wdF (rsN (bgW h) q).D.W ∧ plainSh wSh = true ∨ ∀ (i : Nat), i < (rtN f h q 0).R.D.n → rowOb wSh 0 (wdF (rsN (bgW h) q).D.W i) (wdF (rtN f h q 0).R.D.W i)]) := by kernel_rfl
set_option maxHeartbeats 4000000 in
theorem rg_lp (m : Nat) (f : Nat → Nat → AV) (q : Nat) (h : Nat → Nat → AV) (hm : m ≤ 300) (hq : q ≤ 300) (hr : ∀ i, i < m → 0 ≤ avInt (f i 3) ∧ 0 ≤ avInt (f i 6) ∧ avInt (f i 6) < 18446744073709551616) (hz0 : ∀ i, i < m → 0 ≤ avInt (f i 0) ∧ avInt (f i 0) < 256) (hh : ∀ i, i < q → 0 ≤ avInt (h i 3) ∧ avInt (h i 3) < 18446744073709551616) : rgLP m f q h := by
  have hU : U64 (msN (bgW h) q) := msN_u q hh
  refine fam_rule ERg_ok rgFam ⟨by show 8 ≤ 900; omega, rfl, fun n o hg => .inl (ltAll_get _ rfl n o hg)⟩ (fun z : Nat × RT => rgT m f z.1 z.2) (fun z => m - z.1) (fun z => z.1 ≤ m ∧ z.2 = rtN f h q z.1) (fun z hz => ?_) ?_ (fun z hz => ?_)
  · obtain ⟨ii, x⟩ := z
    obtain ⟨h1, h2⟩ := hz
    have h1 : ii ≤ m := h1
    have h2 : x = rtN f h q ii := h2
    have := (rtN_ok (f := f) (h := h) hU ii (fun k hk => (hr k (by omega)).2)).n
    rw [← h2] at this
    exact rgOk (x := x) (by omega)
  ·
    refine ⟨(0, rtN f h q 0), [(8, Src.nil 5), (9, Src.nm 6)], _, ⟨Nat.zero_le _, rfl⟩, (fun k hk => absurd hk (Nat.not_lt_zero k)), rgi_1 .., (ob_cons rfl (ob_cons rfl (ob_cons rfl (ob_cons rfl (ob_cons rfl (ob_cons rfl (ob_cons rfl (ob_cons rfl (ob_cons rfl (ob_cons rfl (ob_cons rfl (ob_cons rfl (ob_cons rfl (ob_cons rfl (ob_cons rfl (ob_cons (Nat.le_refl _) (ob_cons (.inl ⟨rfl, rfl⟩) (ob_cons ?_ (ob_cons ?_ (ob_cons ?_ (ob_cons ?_ (ob_cons ?_ (ob_cons ?_ (ob_cons ?_ (ob_cons ?_ (ob_cons ?_ (ob_cons rfl (ob_cons ?_ (ob_cons rfl (ob_cons ?_ (ob_cons ?_ (ob_cons ?_ (ob_cons ?_ (ob_cons ?_ (ob_cons ?_ (ob_cons ?_ (ob_cons ?_ (ob_cons rfl (ob_cons ?_ (ob_cons ?_ ob_nil))))))))))))))))))))))))))))))))))))))))⟩
    · exact rfl
    · exact rfl
    · exact rfl
    · exact rfl
    · exact rfl
    · exact rfl
    · exact rfl
    · exact rfl
    · exact fun _ => rfl
    · exact rfl
    · exact rfl
    · exact rfl
    · exact rfl
    · exact rfl
    · exact rfl
    · exact rfl
    · exact rfl
    · exact rfl
    · exact Nat.le_refl _
    · exact .inl ⟨rfl, rfl⟩
  · obtain ⟨ii, x⟩ := z
    obtain ⟨hi, hx⟩ := hz
    have hi : ii ≤ m := hi
    have hx : x = rtN f h q ii := hx
    have hE := rtN_ok (f := f) (h := h) hU ii (fun k hk => (hr k (by omega)).2)
    rw [← hx] at hE
    by_cases hin : ii < m
    · have hnum := hE.f.fine.num
      have hn := hE.n
      have hb := hE.f.fine.both
      have hu : ∀ k, 0 ≤ mget x.S.M k ∧ mget x.S.M k < 18446744073709551616 := hE.f.u
      have hri := hr ii hin
      have hnble : (0 + x.n).ble (rgT m f ii x).n = true := by rw [Nat.zero_add]; exact Nat.ble_eq_true_of_le (Nat.le_refl x.n)
      have hk2 : 0 ≤ avInt (f (0 + ii) 3) := by rw [Nat.zero_add]; exact hri.1
      have hwi : IntKind.i64.wrap (Int.ofNat ii + 1) = Int.ofNat (ii + 1) := wrap_nat64 _ (by simp; omega) (by simp; omega)
      have hnx : ∀ y, y = rtStep (f (0 + ii)) x → (fun z : Nat × RT => z.1 ≤ m ∧ z.2 = rtN f h q z.1) (ii + 1, y) := fun y e => ⟨by show ii + 1 ≤ m; omega, by show y = rtStep (f ii) (rtN f h q ii); rw [e, hx, Nat.zero_add]⟩
      by_cases hk0 : (IntKind.i64.wrap (avInt (f (0 + ii) 0))).tmod 10 = 0
      · have hok := hnx (rtAdd x (rNew 0 (avInt (f (0 + ii) 1)) (avInt (f (0 + ii) 2)))) (by unfold rtStep; rw [if_pos hk0])
        refine fam_norm (F := rgF) (s0 := rgU m f q h) (X := Nat × RT) (T := fun z => rgT m f z.1 z.2) (x := (ii, x)) (ii + 1, rtAdd x (rNew 0 (avInt (f (0 + ii) 1)) (avInt (f (0 + ii) 2)))) x.n false true (rg0_1 ..) (ob_cons rfl (ob_cons rfl (ob_cons rfl (ob_cons rfl (ob_cons rfl (ob_cons rfl (ob_cons ?_ (ob_cons rfl (ob_cons ?_ (ob_cons ?_ (ob_cons ?_ (ob_cons rfl (ob_cons rfl (ob_cons ?_ (ob_cons ?_ (ob_cons ?_ (ob_cons ?_ (ob_cons rfl (ob_cons rfl (ob_cons ?_ (ob_cons ?_ (ob_cons rfl (ob_cons rfl (ob_cons rfl (ob_cons rfl (ob_cons rfl (ob_cons (Nat.le_refl _) (ob_cons (.inl ⟨rfl, rfl⟩) (ob_cons ?_ (ob_cons ?_ (ob_cons ?_ (ob_cons ?_ (ob_cons ?_ (ob_cons ?_ (ob_cons ?_ (ob_cons ?_ (ob_cons ?_ (ob_cons rfl (ob_cons ?_ (ob_cons rfl (ob_cons ?_ (ob_cons ?_ (ob_cons ?_ (ob_cons ?_ (ob_cons ?_ (ob_cons ?_ (ob_cons ?_ (ob_cons ?_ (ob_cons rfl (ob_cons ?_ (ob_cons ?_ (ob_cons ?_ (ob_cons ?_ (ob_cons ?_ (ob_cons ?_ (ob_cons ?_ (ob_cons ?_ (ob_cons ?_ ob_nil)))))))))))))))))))))))))))))))))))))))))))))))))))))))))) (fun h => by cases h) rfl hok (by show m - (ii + 1) < m - ii; omega) (by show rMb (if x.n = x.n then _ else _) = _; rw [if_pos rfl]) (.inl ⟨rfl, Nat.lt_succ_self _⟩) (fun i hi hne => ⟨(by have hi : i < x.n + 1 := hi; show i < x.n; omega), (by show rMb (if i = x.n then _ else _) = rMb _; rw [if_neg hne])⟩)
        · exact rfl
        · assumption
        · exact rfl
        · exact rfl
        · exact rfl
        · exact nl_0 _
        · exact g0_0 _
        · exact rfl
        · exact Nat.le_refl _
        · exact rg_add (k := 0) rfl rfl rfl _ rfl
        · exact rfl
        · exact rfl
        · exact rfl
        · exact rfl
        · exact rfl
        · exact rfl
        · exact rfl
        · exact rfl
        · exact fun _ => rfl
        · exact rfl
        · exact rfl
        · exact rfl
        · exact rfl
        · exact rfl
        · exact rfl
        · exact rfl
        · exact rfl
        · exact rfl
        · exact Nat.le_refl _
        · exact .inl ⟨rfl, rfl⟩
        · assumption
        · (simp [Nat.blt_eq]; omega)
        · assumption
        · assumption
        · (simp [Nat.blt_eq]; omega)
        · (simp [Nat.blt_eq]; omega)
        · (simp [Nat.blt_eq]; omega)
      by_cases hk1 : (IntKind.i64.wrap (avInt (f (0 + ii) 0))).tmod 10 = 1
      · have hok := hnx (rtAdd x (rNew 1 (avInt (f (0 + ii) 1)) (avInt (f (0 + ii) 2)))) (by unfold rtStep; rw [if_neg hk0, if_pos hk1])
        refine fam_norm (F := rgF) (s0 := rgU m f q h) (X := Nat × RT) (T := fun z => rgT m f z.1 z.2) (x := (ii, x)) (ii + 1, rtAdd x (rNew 1 (avInt (f (0 + ii) 1)) (avInt (f (0 + ii) 2)))) x.n false true (rg1_1 ..) (ob_cons rfl (ob_cons rfl (ob_cons rfl (ob_cons rfl (ob_cons rfl (ob_cons rfl (ob_cons ?_ (ob_cons rfl (ob_cons ?_ (ob_cons ?_ (ob_cons ?_ (ob_cons rfl (ob_cons ?_ (ob_cons ?_ (ob_cons rfl (ob_cons ?_ (ob_cons rfl (ob_cons rfl (ob_cons ?_ (ob_cons ?_ (ob_cons rfl (ob_cons rfl (ob_cons rfl (ob_cons rfl (ob_cons rfl (ob_cons (Nat.le_refl _) (ob_cons (.inl ⟨rfl, rfl⟩) (ob_cons ?_ (ob_cons ?_ (ob_cons ?_ (ob_cons ?_ (ob_cons ?_ (ob_cons ?_ (ob_cons ?_ (ob_cons ?_ (ob_cons ?_ (ob_cons rfl (ob_cons ?_ (ob_cons rfl (ob_cons ?_ (ob_cons ?_ (ob_cons ?_ (ob_cons ?_ (ob_cons ?_ (ob_cons ?_ (ob_cons ?_ (ob_cons ?_ (ob_cons rfl (ob_cons ?_ (ob_cons ?_ (ob_cons ?_ (ob_cons ?_ (ob_cons ?_ (ob_cons ?_ (ob_cons ?_ (ob_cons ?_ (ob_cons ?_ ob_nil))))))))))))))))))))))))))))))))))))))))))))))))))))))))) (fun h => by cases h) rfl hok (by show m - (ii + 1) < m - ii; omega) (by show rMb (if x.n = x.n then _ else _) = _; rw [if_pos rfl]) (.inl ⟨rfl, Nat.lt_succ_self _⟩) (fun i hi hne => ⟨(by have hi : i < x.n + 1 := hi; show i < x.n; omega), (by show rMb (if i = x.n then _ else _) = rMb _; rw [if_neg hne])⟩)
        · exact rfl
        · assumption
        · exact rfl
        · exact rfl
        · exact rfl
        · exact nl_1 _
        · exact rfl
        · exact Nat.le_refl _
        · exact rg_add (k := 1) rfl rfl rfl _ rfl
        · exact rfl
        · exact rfl
        · exact rfl
        · exact rfl
        · exact rfl
        · exact rfl
        · exact rfl
        · exact rfl
        · exact fun _ => rfl
        · exact rfl
        · exact rfl
        · exact rfl
        · exact rfl
        · exact rfl
        · exact rfl
        · exact rfl
        · exact rfl
        · exact rfl
        · exact Nat.le_refl _
        · exact .inl ⟨rfl, rfl⟩
        · assumption
        · (simp [Nat.blt_eq]; omega)
        · assumption
        · assumption
        · (simp [Nat.blt_eq]; omega)
        · (simp [Nat.blt_eq]; omega)
        · (simp [Nat.blt_eq]; omega)
      by_cases hk2n : (IntKind.i64.wrap (avInt (f (0 + ii) 0))).tmod 10 = 2
      · have hok := hnx (rtAdd x (rNew 2 (avInt (f (0 + ii) 1)) (avInt (f (0 + ii) 2)))) (by unfold rtStep; rw [if_neg hk0, if_neg hk1, if_pos hk2n])
        refine fam_norm (F := rgF) (s0 := rgU m f q h) (X := Nat × RT) (T := fun z => rgT m f z.1 z.2) (x := (ii, x)) (ii + 1, rtAdd x (rNew 2 (avInt (f (0 + ii) 1)) (avInt (f (0 + ii) 2)))) x.n false true (rg2_1 ..) (ob_cons rfl (ob_cons rfl (ob_cons rfl (ob_cons rfl (ob_cons rfl (ob_cons rfl (ob_cons ?_ (ob_cons rfl (ob_cons ?_ (ob_cons ?_ (ob_cons ?_ (ob_cons ?_ (ob_cons rfl (ob_cons ?_ (ob_cons rfl (ob_cons ?_ (ob_cons ?_ (ob_cons ?_ (ob_cons ?_ (ob_cons rfl (ob_cons rfl (ob_cons ?_ (ob_cons ?_ (ob_cons rfl (ob_cons rfl (ob_cons rfl (ob_cons rfl (ob_cons rfl (ob_cons (Nat.le_refl _) (ob_cons (.inl ⟨rfl, rfl⟩) (ob_cons ?_ (ob_cons ?_ (ob_cons ?_ (ob_cons ?_ (ob_cons ?_ (ob_cons ?_ (ob_cons ?_ (ob_cons ?_ (ob_cons ?_ (ob_cons rfl (ob_cons ?_ (ob_cons rfl (ob_cons ?_ (ob_cons ?_ (ob_cons ?_ (ob_cons ?_ (ob_cons ?_ (ob_cons ?_ (ob_cons ?_ (ob_cons ?_ (ob_cons rfl (ob_cons ?_ (ob_cons ?_ (ob_cons ?_ (ob_cons ?_ (ob_cons ?_ (ob_cons ?_ (ob_cons ?_ (ob_cons ?_ (ob_cons ?_ ob_nil)))))))))))))))))))))))))))))))))))))))))))))))))))))))))))) (fun h => by cases h) rfl hok (by show m - (ii + 1) < m - ii; omega) (by show rMb (if x.n = x.n then _ else _) = _; rw [if_pos rfl]) (.inl ⟨rfl, Nat.lt_succ_self _⟩) (fun i hi hne => ⟨(by have hi : i < x.n + 1 := hi; show i < x.n; omega), (by show rMb (if i = x.n then _ else _) = rMb _; rw [if_neg hne])⟩)
        · exact rfl
        · assumption
        · exact rfl
        · exact rfl
        · exact rfl
        · exact rfl
        · exact rfl
        · exact nl_1 _
        · exact rfl
        · exact rfl
        · exact Nat.le_refl _
        · exact rg_add (k := 2) rfl rfl rfl _ rfl
        · exact rfl
        · exact rfl
        · exact rfl
        · exact rfl
        · exact rfl
        · exact rfl
        · exact rfl
        · exact rfl
        · exact fun _ => rfl
        · exact rfl
        · exact rfl
        · exact rfl
        · exact rfl
        · exact rfl
        · exact rfl
        · exact rfl
        · exact rfl
        · exact rfl
        · exact Nat.le_refl _
        · exact .inl ⟨rfl, rfl⟩
        · assumption
        · (simp [Nat.blt_eq]; omega)
        · assumption
        · assumption
        · (simp [Nat.blt_eq]; omega)
        · (simp [Nat.blt_eq]; omega)
        · (simp [Nat.blt_eq]; omega)
      by_cases hk3 : (IntKind.i64.wrap (avInt (f (0 + ii) 0))).tmod 10 = 3
      · have hok := hnx (rtAdd x (rNew 3 (avInt (f (0 + ii) 1)) (avInt (f (0 + ii) 2)))) (by unfold rtStep; rw [if_neg hk0, if_neg hk1, if_neg hk2n, if_pos hk3])
        refine fam_norm (F := rgF) (s0 := rgU m f q h) (X := Nat × RT) (T := fun z => rgT m f z.1 z.2) (x := (ii, x)) (ii + 1, rtAdd x (rNew 3 (avInt (f (0 + ii) 1)) (avInt (f (0 + ii) 2)))) x.n false true (rg3_1 ..) (ob_cons rfl (ob_cons rfl (ob_cons rfl (ob_cons rfl (ob_cons rfl (ob_cons rfl (ob_cons ?_ (ob_cons rfl (ob_cons ?_ (ob_cons rfl (ob_cons rfl (ob_cons ?_ (ob_cons rfl (ob_cons ?_ (ob_cons rfl (ob_cons rfl (ob_cons ?_ (ob_cons rfl (ob_cons rfl (ob_cons ?_ (ob_cons ?_ (ob_cons rfl (ob_cons rfl (ob_cons rfl (ob_cons rfl (ob_cons rfl (ob_cons (Nat.le_refl _) (ob_cons (.inl ⟨rfl, rfl⟩) (ob_cons ?_ (ob_cons ?_ (ob_cons ?_ (ob_cons ?_ (ob_cons ?_ (ob_cons ?_ (ob_cons ?_ (ob_cons ?_ (ob_cons ?_ (ob_cons rfl (ob_cons ?_ (ob_cons rfl (ob_cons ?_ (ob_cons ?_ (ob_cons ?_ (ob_cons ?_ (ob_cons ?_ (ob_cons ?_ (ob_cons ?_ (ob_cons ?_ (ob_cons rfl (ob_cons ?_ (ob_cons ?_ (ob_cons ?_ (ob_cons ?_ (ob_cons ?_ (ob_cons ?_ (ob_cons ?_ (ob_cons ?_ (ob_cons ?_ ob_nil)))))))))))))))))))))))))))))))))))))))))))))))))))))))))) (fun h => by cases h) rfl hok (by show m - (ii + 1) < m - ii; omega) (by show rMb (if x.n = x.n then _ else _) = _; rw [if_pos rfl]) (.inl ⟨rfl, Nat.lt_succ_self _⟩) (fun i hi hne => ⟨(by have hi : i < x.n + 1 := hi; show i < x.n; omega), (by show rMb (if i = x.n then _ else _) = rMb _; rw [if_neg hne])⟩)
        · exact rfl
        · assumption
        · exact rfl
        · exact rfl
        · exact rfl
        · exact Nat.le_refl _
        · exact rg_add (k := 3) rfl rfl rfl _ rfl
        · exact rfl
        · exact rfl
        · exact rfl
        · exact rfl
        · exact rfl
        · exact rfl
        · exact rfl
        · exact rfl
        · exact fun _ => rfl
        · exact rfl
        · exact rfl
        · exact rfl
        · exact rfl
        · exact rfl
        · exact rfl
        · exact rfl
        · exact rfl
        · exact rfl
        · exact Nat.le_refl _
        · exact .inl ⟨rfl, rfl⟩
        · assumption
        · (simp [Nat.blt_eq]; omega)
        · assumption
        · assumption
        · (simp [Nat.blt_eq]; omega)
        · (simp [Nat.blt_eq]; omega)
        · (simp [Nat.blt_eq]; omega)
      have hlt4 : decide ((IntKind.i64.wrap (avInt (f (0 + ii) 0))).tmod 10 < 4) = false ∨ True := .inr trivial
      by_cases hk4 : (IntKind.i64.wrap (avInt (f (0 + ii) 0))).tmod 10 = 4
      · have hok := hnx (RT.mk (mStore x.S (avInt (f (0 + ii) 3)) (avInt (f (0 + ii) 4)) (avInt (f (0 + ii) 5)) (avInt (f (0 + ii) 6))) (rStore x.R (avInt (f (0 + ii) 3)) (avInt (f (0 + ii) 4)) (avInt (f (0 + ii) 5)) (avInt (f (0 + ii) 6))) x.n x.O) (by unfold rtStep; rw [if_neg hk0, if_neg hk1, if_neg hk2n, if_neg hk3, if_pos hk4])
        have hbS := hb.store (avInt (f (0 + ii) 3)) (avInt (f (0 + ii) 4)) (avInt (f (0 + ii) 5)) (avInt (f (0 + ii) 6))
        have dlt : decide ((IntKind.i64.wrap (avInt (f (0 + ii) 0))).tmod 10 < 4) = false := decide_eq_false (by rw [hk4]; decide)
        refine fam_norm (F := rgF) (s0 := rgU m f q h) (X := Nat × RT) (T := fun z => rgT m f z.1 z.2) (x := (ii, x)) (ii + 1, (RT.mk (mStore x.S (avInt (f (0 + ii) 3)) (avInt (f (0 + ii) 4)) (avInt (f (0 + ii) 5)) (avInt (f (0 + ii) 6))) (rStore x.R (avInt (f (0 + ii) 3)) (avInt (f (0 + ii) 4)) (avInt (f (0 + ii) 5)) (avInt (f (0 + ii) 6))) x.n x.O)) x.n false false (rg4_1 ..) (ob_cons rfl (ob_cons rfl (ob_cons rfl (ob_cons rfl (ob_cons rfl (ob_cons rfl (ob_cons ?_ (ob_cons rfl (ob_cons ?_ (ob_cons rfl (ob_cons ?_ (ob_cons ?_ (ob_cons rfl (ob_cons rfl (ob_cons rfl (ob_cons rfl (ob_cons rfl (ob_cons (Nat.le_refl _) (ob_cons (.inl ⟨rfl, rfl⟩) (ob_cons ?_ (ob_cons rfl (ob_cons ?_ (ob_cons ?_ (ob_cons ?_ (ob_cons ?_ (ob_cons ?_ (ob_cons ?_ (ob_cons ?_ (ob_cons rfl (ob_cons ?_ (ob_cons rfl (ob_cons ?_ (ob_cons rfl (ob_cons ?_ (ob_cons ?_ (ob_cons ?_ (ob_cons ?_ (ob_cons ?_ (ob_cons ?_ (ob_cons rfl (ob_cons ?_ (ob_cons ?_ (ob_cons ?_ (ob_cons ?_ (ob_cons (Nat.le_refl _) (ob_cons ?_ (ob_cons ?_ (ob_cons ?_ (ob_cons ?_ (ob_cons ?_ (ob_cons ?_ (ob_cons ?_ (ob_cons ?_ (ob_cons ?_ (ob_cons ?_ ob_nil))))))))))))))))))))))))))))))))))))))))))))))))))))))) (fun h => by cases h) rfl hok (by show m - (ii + 1) < m - ii; omega) rfl (.inr ⟨rfl, Nat.le_refl _⟩) (fun i hi hne => ⟨hi, rfl⟩)
        · exact rfl
        · assumption
        · exact Nat.le_refl _
        · exact rg_no rfl (Nat.le_refl _) rfl (fun _ => rfl)
        · exact rfl
        · exact rfl
        · exact rfl
        · exact rfl
        · exact rfl
        · exact rfl
        · exact rfl
        · exact fun _ => rfl
        · exact rfl
        · exact rfl
        · exact rfl
        · exact rfl
        · exact rfl
        · exact rfl
        · exact rfl
        · exact rfl
        · exact Nat.le_refl _
        · exact .inl ⟨rfl, rfl⟩
        · assumption
        · assumption
        · (simp [Nat.blt_eq]; omega)
        · assumption
        · exact eqT hk4
        · exact eqF hk3
        · exact eqF hk2n
        · exact eqF hk1
        · exact eqF hk0
        · (simp [Nat.blt_eq]; omega)
        · (simp [Nat.blt_eq]; omega)
        · (simp [Nat.blt_eq]; omega)
      have hr0 := (hr ii hin).1
      have hge : 0 ≤ (IntKind.i64.wrap (avInt (f (0 + ii) 0))).tmod 10 ∨ (IntKind.i64.wrap (avInt (f (0 + ii) 0))).tmod 10 < 0 := by omega
      have dlt : decide ((IntKind.i64.wrap (avInt (f (0 + ii) 0))).tmod 10 < 4) = false := decide_eq_false (by have := kd_nn (avInt (f (0 + ii) 0)) (by rw [Nat.zero_add]; exact hz0 ii hin); omega)
      by_cases hn0 : x.n = 0
      · have hok := hnx x (by unfold rtStep; rw [if_neg hk0, if_neg hk1, if_neg hk2n, if_neg hk3, if_neg hk4, if_pos hn0])
        refine fam_norm (F := rgF) (s0 := rgU m f q h) (X := Nat × RT) (T := fun z => rgT m f z.1 z.2) (x := (ii, x)) (ii + 1, x) x.n false false (rg5_1 ..) (ob_cons rfl (ob_cons rfl (ob_cons rfl (ob_cons rfl (ob_cons rfl (ob_cons rfl (ob_cons rfl (ob_cons rfl (ob_cons ?_ (ob_cons rfl (ob_cons ?_ (ob_cons ?_ (ob_cons rfl (ob_cons rfl (ob_cons rfl (ob_cons rfl (ob_cons rfl (ob_cons (Nat.le_refl _) (ob_cons (.inl ⟨rfl, rfl⟩) (ob_cons rfl (ob_cons rfl (ob_cons rfl (ob_cons rfl (ob_cons rfl (ob_cons rfl (ob_cons rfl (ob_cons rfl (ob_cons (fun _ => rfl) (ob_cons rfl (ob_cons rfl (ob_cons rfl (ob_cons rfl (ob_cons rfl (ob_cons rfl (ob_cons rfl (ob_cons rfl (ob_cons rfl (ob_cons rfl (ob_cons rfl (ob_cons rfl (ob_cons (Nat.le_refl _) (ob_cons (.inl ⟨rfl, rfl⟩) (ob_cons ?_ (ob_cons ?_ (ob_cons ?_ (ob_cons ?_ (ob_cons ?_ (ob_cons ?_ (ob_cons ?_ (ob_cons ?_ (ob_cons ?_ (ob_cons ?_ (ob_cons ?_ ob_nil))))))))))))))))))))))))))))))))))))))))))))))))))))) (fun h => by cases h) rfl hok (by show m - (ii + 1) < m - ii; omega) rfl (.inr ⟨rfl, Nat.le_refl _⟩) (fun i hi hne => ⟨hi, rfl⟩)
        · assumption
        · exact Nat.le_refl _
        · exact rg_no rfl (Nat.le_refl _) rfl (fun _ => rfl)
        · assumption
        · assumption
        · (simp [Nat.blt_eq]; omega)
        · exact eqF hk4
        · exact eqF hk3
        · exact eqF hk2n
        · exact eqF hk1
        · exact eqF hk0
        · (simp [Nat.blt_eq]; omega)
        · (simp [Nat.blt_eq]; omega)
        · (simp [Nat.blt_eq]; omega)
      have hjx := jX_lt (f (0 + ii)) hn0 (by omega)
      generalize hj : jX (f (0 + ii)) x.n = j at hjx
      obtain ⟨hjn, hjr⟩ := hjx
      have hok := hnx (rtDo2 x j (x.O j)) (by unfold rtStep; rw [if_neg hk0, if_neg hk1, if_neg hk2n, if_neg hk3, if_neg hk4, if_neg hn0, hj])
      have hjb : (0 + ((IntKind.u64.wrap (avInt (f (0 + ii) 1))).tmod (IntKind.u64.wrap (Int.ofNat x.n))).toNat).blt (rgT m f ii x).n = true := by
        rw [Nat.zero_add, show ((IntKind.u64.wrap (avInt (f (0 + ii) 1))).tmod (IntKind.u64.wrap (Int.ofNat x.n))).toNat = j from hj]; exact (by simpa [Nat.blt_eq] using hjn : Nat.blt j x.n = true)
      have hjb2 : (((IntKind.u64.wrap (avInt (f (0 + ii) 1))).tmod (IntKind.u64.wrap (Int.ofNat x.n))).toNat.blt x.n && decide (0 ≤ ((IntKind.u64.wrap (avInt (f (0 + ii) 1))).tmod (IntKind.u64.wrap (Int.ofNat x.n))))) = true := by
        rw [show ((IntKind.u64.wrap (avInt (f (0 + ii) 1))).tmod (IntKind.u64.wrap (Int.ofNat x.n))).toNat = j from hj, Bool.and_eq_true]
        exact ⟨by simpa [Nat.blt_eq] using hjn, decide_eq_true hjr⟩
      have hnw : decide (IntKind.u64.wrap (Int.ofNat x.n) ≠ 0) = true := by
        rw [u64w (by simp) (by simp; omega)]
        exact decide_eq_true (by simp; omega)
      have hnr : decide (Int.ofNat x.n > 0) = true := decide_eq_true (by simp; omega)
      have hl : ∀ c, lrow rgF.b0 2 (rgT m f ii x).M j (0 + ((IntKind.u64.wrap (avInt (f (0 + ii) 1))).tmod (IntKind.u64.wrap (Int.ofNat x.n))).toNat) c = mrow 2 900 (rMb (x.O j)) c := fun c => by
        rw [Nat.zero_add, show ((IntKind.u64.wrap (avInt (f (0 + ii) 1))).tmod (IntKind.u64.wrap (Int.ofNat x.n))).toNat = j from hj]
        exact lrow_j rfl
      have hoo := hE.o j
      have hbS := (ro_mem hE.f (hE.o j)).fine.both
      generalize ho : x.O j = oj at hl hoo hok hbS
      obtain ⟨k, av, th, hi, nw, e, h2, dn⟩ := oj
      match k, ho, hl, hoo, hok, hbS with
      | 0, ho, hl, hoo, hok, hbS =>
        obtain ⟨ho0, ho1, _⟩ := hoo
        have q0 : lrow 6703903964971298549787012499102923063739682910296196688861780721860882015036773488400937149083451713845015929093243025426876941405973284973216824503042048 2 (rgT m f ii x).M j (0 + ((IntKind.u64.wrap (avInt (f (0 + ii) 1))).tmod (IntKind.u64.wrap (Int.ofNat x.n))).toNat) 0 = AV.ptr 900 0 0 := (hl 0).trans rfl
        have q1 : lrow 6703903964971298549787012499102923063739682910296196688861780721860882015036773488400937149083451713845015929093243025426876941405973284973216824503042048 2 (rgT m f ii x).M j (0 + ((IntKind.u64.wrap (avInt (f (0 + ii) 1))).tmod (IntKind.u64.wrap (Int.ofNat x.n))).toNat) 1 = AV.nilp := (hl 1).trans rfl
        have q2 : lrow 6703903964971298549787012499102923063739682910296196688861780721860882015036773488400937149083451713845015929093243025426876941405973284973216824503042048 2 (rgT m f ii x).M j (0 + ((IntKind.u64.wrap (avInt (f (0 + ii) 1))).tmod (IntKind.u64.wrap (Int.ofNat x.n))).toNat) 2 = AV.nilp := (hl 2).trans rfl
        have q3 : lrow 6703903964971298549787012499102923063739682910296196688861780721860882015036773488400937149083451713845015929093243025426876941405973284973216824503042048 2 (rgT m f ii x).M j (0 + ((IntKind.u64.wrap (avInt (f (0 + ii) 1))).tmod (IntKind.u64.wrap (Int.ofNat x.n))).toNat) 3 = AV.nilp := (hl 3).trans rfl
        have q4 : lrow 6703903964971298549787012499102923063739682910296196688861780721860882015036773488400937149083451713845015929093243025426876941405973284973216824503042048 2 (rgT m f ii x).M j (0 + ((IntKind.u64.wrap (avInt (f (0 + ii) 1))).tmod (IntKind.u64.wrap (Int.ofNat x.n))).toNat) 4 = AV.ptr 901 0 0 := (hl 4).trans rfl
        clear hl
        refine fam_norm (F := rgF) (s0 := rgU m f q h) (X := Nat × RT) (T := fun z => rgT m f z.1 z.2) (x := (ii, x)) (ii + 1, rtDo2 x j (RO.mk 0 av th hi nw e h2 dn)) j true true (rg6_1 ..) (ob_cons rfl (ob_cons rfl (ob_cons rfl (ob_cons rfl (ob_cons rfl (ob_cons rfl (ob_cons ?_ (ob_cons rfl (ob_cons ?_ (ob_cons ?_ (ob_cons ?_ (ob_cons ?_ (ob_cons rfl (ob_cons ?_ (ob_cons ?_ (ob_cons ?_ (ob_cons ?_ (ob_cons ?_ (ob_cons rfl (ob_cons ?_ (ob_cons ?_ (ob_cons rfl (ob_cons rfl (ob_cons rfl (ob_cons rfl (ob_cons rfl (ob_cons (Nat.le_refl _) (ob_cons (.inl ⟨rfl, rfl⟩) (ob_cons ?_ (ob_cons ?_ (ob_cons ?_ (ob_cons ?_ (ob_cons ?_ (ob_cons ?_ (ob_cons ?_ (ob_cons ?_ (ob_cons ?_ (ob_cons rfl (ob_cons ?_ (ob_cons rfl (ob_cons ?_ (ob_cons ?_ (ob_cons ?_ (ob_cons ?_ (ob_cons ?_ (ob_cons ?_ (ob_cons ?_ (ob_cons ?_ (ob_cons rfl (ob_cons ?_ (ob_cons ?_ (ob_cons ?_ (ob_cons ?_ (ob_cons (Nat.le_refl _) (ob_cons ?_ (ob_cons ?_ (ob_cons ?_ (ob_cons rfl (ob_cons rfl (ob_cons ?_ (ob_cons rfl (ob_cons rfl (ob_cons ?_ (ob_cons ?_ (ob_cons ?_ (ob_cons ?_ (ob_cons ?_ (ob_cons ?_ (ob_cons ?_ (ob_cons ?_ (ob_cons ?_ (ob_cons ?_ (ob_cons ?_ (ob_cons ?_ (ob_cons ?_ (ob_cons ?_ (ob_cons ?_ (ob_cons ?_ (ob_cons ?_ (ob_cons ?_ ob_nil)))))))))))))))))))))))))))))))))))))))))))))))))))))))))))))))))))))))))))))))) (fun _ => hjn) (by show rMb (x.O j) = _; rw [ho]) hok (by show m - (ii + 1) < m - ii; omega) (by show rMb (if j = j then _ else _) = _; rw [if_pos rfl]) (.inl ⟨rfl, hjn⟩) (fun i hi hne => ⟨hi, (by show rMb (if i = j then _ else _) = rMb _; rw [if_neg hne])⟩)
        · exact rfl
        · assumption
        · exact rfl
        · exact rfl
        · exact rfl
        · exact rfl
        · exact rfl
        · exact rfl
        · exact rfl
        · exact rfl
        · exact Nat.le_refl _
        · exact rg_do rfl rfl rfl ho
        · exact rfl
        · exact rfl
        · exact rfl
        · exact rfl
        · exact rfl
        · exact rfl
        · exact rfl
        · exact rfl
        · exact fun _ => rfl
        · exact rfl
        · exact rfl
        · exact rfl
        · exact rfl
        · exact rfl
        · exact rfl
        · exact rfl
        · exact rfl
        · exact rfl
        · exact Nat.le_refl _
        · exact .inl ⟨rfl, rfl⟩
        · assumption
        · assumption
        · (simp [Nat.blt_eq]; omega)
        · assumption
        · assumption
        · assumption
        · assumption
        · assumption
        · assumption
        · assumption
        · assumption
        · assumption
        · assumption
        · assumption
        · assumption
        · assumption
        · exact eqF hk4
        · exact eqF hk3
        · exact eqF hk2n
        · exact eqF hk1
        · exact eqF hk0
        · (simp [Nat.blt_eq]; omega)
        · (simp [Nat.blt_eq]; omega)
        · (simp [Nat.blt_eq]; omega)
      | 1, ho, hl, hoo, hok, hbS =>
        have ho0 := hoo
        have q0 : lrow 6703903964971298549787012499102923063739682910296196688861780721860882015036773488400937149083451713845015929093243025426876941405973284973216824503042048 2 (rgT m f ii x).M j (0 + ((IntKind.u64.wrap (avInt (f (0 + ii) 1))).tmod (IntKind.u64.wrap (Int.ofNat x.n))).toNat) 0 = AV.nilp := (hl 0).trans rfl
        have q1 : lrow 6703903964971298549787012499102923063739682910296196688861780721860882015036773488400937149083451713845015929093243025426876941405973284973216824503042048 2 (rgT m f ii x).M j (0 + ((IntKind.u64.wrap (avInt (f (0 + ii) 1))).tmod (IntKind.u64.wrap (Int.ofNat x.n))).toNat) 1 = AV.ptr 900 0 0 := (hl 1).trans rfl
        have q2 : lrow 6703903964971298549787012499102923063739682910296196688861780721860882015036773488400937149083451713845015929093243025426876941405973284973216824503042048 2 (rgT m f ii x).M j (0 + ((IntKind.u64.wrap (avInt (f (0 + ii) 1))).tmod (IntKind.u64.wrap (Int.ofNat x.n))).toNat) 2 = AV.nilp := (hl 2).trans rfl
        have q3 : lrow 6703903964971298549787012499102923063739682910296196688861780721860882015036773488400937149083451713845015929093243025426876941405973284973216824503042048 2 (rgT m f ii x).M j (0 + ((IntKind.u64.wrap (avInt (f (0 + ii) 1))).tmod (IntKind.u64.wrap (Int.ofNat x.n))).toNat) 3 = AV.nilp := (hl 3).trans rfl
        have q4 : lrow 6703903964971298549787012499102923063739682910296196688861780721860882015036773488400937149083451713845015929093243025426876941405973284973216824503042048 2 (rgT m f ii x).M j (0 + ((IntKind.u64.wrap (avInt (f (0 + ii) 1))).tmod (IntKind.u64.wrap (Int.ofNat x.n))).toNat) 4 = AV.ptr 901 0 0 := (hl 4).trans rfl
        clear hl
        refine fam_norm (F := rgF) (s0 := rgU m f q h) (X := Nat × RT) (T := fun z => rgT m f z.1 z.2) (x := (ii, x)) (ii + 1, rtDo2 x j (RO.mk 1 av th hi nw e h2 dn)) j true true (rg7_1 ..) (ob_cons rfl (ob_cons rfl (ob_cons rfl (ob_cons rfl (ob_cons rfl (ob_cons rfl (ob_cons ?_ (ob_cons rfl (ob_cons ?_ (ob_cons ?_ (ob_cons ?_ (ob_cons rfl (ob_cons ?_ (ob_cons ?_ (ob_cons ?_ (ob_cons ?_ (ob_cons ?_ (ob_cons rfl (ob_cons ?_ (ob_cons ?_ (ob_cons rfl (ob_cons rfl (ob_cons rfl (ob_cons rfl (ob_cons rfl (ob_cons (Nat.le_refl _) (ob_cons (.inl ⟨rfl, rfl⟩) (ob_cons ?_ (ob_cons ?_ (ob_cons ?_ (ob_cons ?_ (ob_cons ?_ (ob_cons ?_ (ob_cons ?_ (ob_cons ?_ (ob_cons ?_ (ob_cons rfl (ob_cons ?_ (ob_cons rfl (ob_cons ?_ (ob_cons ?_ (ob_cons ?_ (ob_cons ?_ (ob_cons ?_ (ob_cons ?_ (ob_cons ?_ (ob_cons ?_ (ob_cons rfl (ob_cons ?_ (ob_cons ?_ (ob_cons ?_ (ob_cons ?_ (ob_cons (Nat.le_refl _) (ob_cons ?_ (ob_cons ?_ (ob_cons ?_ (ob_cons rfl (ob_cons rfl (ob_cons ?_ (ob_cons rfl (ob_cons ?_ (ob_cons ?_ (ob_cons ?_ (ob_cons ?_ (ob_cons ?_ (ob_cons ?_ (ob_cons ?_ (ob_cons ?_ (ob_cons ?_ (ob_cons ?_ (ob_cons ?_ (ob_cons ?_ (ob_cons ?_ (ob_cons ?_ (ob_cons ?_ (ob_cons ?_ (ob_cons ?_ ob_nil))))))))))))))))))))))))))))))))))))))))))))))))))))))))))))))))))))))))))))) (fun _ => hjn) (by show rMb (x.O j) = _; rw [ho]) hok (by show m - (ii + 1) < m - ii; omega) (by show rMb (if j = j then _ else _) = _; rw [if_pos rfl]) (.inl ⟨rfl, hjn⟩) (fun i hi hne => ⟨hi, (by show rMb (if i = j then _ else _) = rMb _; rw [if_neg hne])⟩)
        · exact rfl
        · assumption
        · exact rfl
        · exact rfl
        · exact rfl
        · exact rfl
        · exact rfl
        · exact rfl
        · exact rfl
        · exact Nat.le_refl _
        · exact rg_do rfl rfl rfl ho
        · exact rfl
        · exact rfl
        · exact rfl
        · exact rfl
        · exact rfl
        · exact rfl
        · exact rfl
        · exact rfl
        · exact fun _ => rfl
        · exact rfl
        · exact rfl
        · exact rfl
        · exact rfl
        · exact rfl
        · exact rfl
        · exact rfl
        · exact rfl
        · exact rfl
        · exact Nat.le_refl _
        · exact .inl ⟨rfl, rfl⟩
        · assumption
        · assumption
        · (simp [Nat.blt_eq]; omega)
        · assumption
        · assumption
        · assumption
        · assumption
        · assumption
        · assumption
        · assumption
        · assumption
        · assumption
        · assumption
        · assumption
        · assumption
        · exact eqF hk4
        · exact eqF hk3
        · exact eqF hk2n
        · exact eqF hk1
        · exact eqF hk0
        · (simp [Nat.blt_eq]; omega)
        · (simp [Nat.blt_eq]; omega)
        · (simp [Nat.blt_eq]; omega)
      | 2, ho, hl, hoo, hok, hbS =>
        obtain ⟨ho0, ho1⟩ := hoo
        have q0 : lrow 6703903964971298549787012499102923063739682910296196688861780721860882015036773488400937149083451713845015929093243025426876941405973284973216824503042048 2 (rgT m f ii x).M j (0 + ((IntKind.u64.wrap (avInt (f (0 + ii) 1))).tmod (IntKind.u64.wrap (Int.ofNat x.n))).toNat) 0 = AV.nilp := (hl 0).trans rfl
        have q1 : lrow 6703903964971298549787012499102923063739682910296196688861780721860882015036773488400937149083451713845015929093243025426876941405973284973216824503042048 2 (rgT m f ii x).M j (0 + ((IntKind.u64.wrap (avInt (f (0 + ii) 1))).tmod (IntKind.u64.wrap (Int.ofNat x.n))).toNat) 1 = AV.nilp := (hl 1).trans rfl
        have q2 : lrow 6703903964971298549787012499102923063739682910296196688861780721860882015036773488400937149083451713845015929093243025426876941405973284973216824503042048 2 (rgT m f ii x).M j (0 + ((IntKind.u64.wrap (avInt (f (0 + ii) 1))).tmod (IntKind.u64.wrap (Int.ofNat x.n))).toNat) 2 = AV.ptr 900 0 0 := (hl 2).trans rfl
        have q3 : lrow 6703903964971298549787012499102923063739682910296196688861780721860882015036773488400937149083451713845015929093243025426876941405973284973216824503042048 2 (rgT m f ii x).M j (0 + ((IntKind.u64.wrap (avInt (f (0 + ii) 1))).tmod (IntKind.u64.wrap (Int.ofNat x.n))).toNat) 3 = AV.nilp := (hl 3).trans rfl
        have q4 : lrow 6703903964971298549787012499102923063739682910296196688861780721860882015036773488400937149083451713845015929093243025426876941405973284973216824503042048 2 (rgT m f ii x).M j (0 + ((IntKind.u64.wrap (avInt (f (0 + ii) 1))).tmod (IntKind.u64.wrap (Int.ofNat x.n))).toNat) 4 = AV.ptr 901 0 0 := (hl 4).trans rfl
        clear hl
        refine fam_norm (F := rgF) (s0 := rgU m f q h) (X := Nat × RT) (T := fun z => rgT m f z.1 z.2) (x := (ii, x)) (ii + 1, rtDo2 x j (RO.mk 2 av th hi nw e h2 dn)) j true true (rg8_1 ..) (ob_cons rfl (ob_cons rfl (ob_cons rfl (ob_cons rfl (ob_cons rfl (ob_cons rfl (ob_cons ?_ (ob_cons rfl (ob_cons ?_ (ob_cons ?_ (ob_cons ?_ (ob_cons ?_ (ob_cons ?_ (ob_cons ?_ (ob_cons rfl (ob_cons ?_ (ob_cons ?_ (ob_cons ?_ (ob_cons ?_ (ob_cons ?_ (ob_cons rfl (ob_cons ?_ (ob_cons ?_ (ob_cons rfl (ob_cons rfl (ob_cons rfl (ob_cons rfl (ob_cons rfl (ob_cons (Nat.le_refl _) (ob_cons (.inl ⟨rfl, rfl⟩) (ob_cons ?_ (ob_cons ?_ (ob_cons ?_ (ob_cons ?_ (ob_cons ?_ (ob_cons ?_ (ob_cons ?_ (ob_cons ?_ (ob_cons ?_ (ob_cons rfl (ob_cons ?_ (ob_cons rfl (ob_cons ?_ (ob_cons ?_ (ob_cons ?_ (ob_cons ?_ (ob_cons ?_ (ob_cons ?_ (ob_cons ?_ (ob_cons ?_ (ob_cons rfl (ob_cons ?_ (ob_cons ?_ (ob_cons ?_ (ob_cons ?_ (ob_cons (Nat.le_refl _) (ob_cons ?_ (ob_cons ?_ (ob_cons ?_ (ob_cons rfl (ob_cons rfl (ob_cons ?_ (ob_cons rfl (ob_cons rfl (ob_cons rfl (ob_cons ?_ (ob_cons ?_ (ob_cons ?_ (ob_cons ?_ (ob_cons ?_ (ob_cons ?_ (ob_cons ?_ (ob_cons ?_ (ob_cons ?_ (ob_cons ?_ (ob_cons ?_ (ob_cons ?_ (ob_cons ?_ (ob_cons ?_ (ob_cons ?_ (ob_cons ?_ (ob_cons ?_ (ob_cons ?_ ob_nil))))))))))))))))))))))))))))))))))))))))))))))))))))))))))))))))))))))))))))))))))) (fun _ => hjn) (by show rMb (x.O j) = _; rw [ho]) hok (by show m - (ii + 1) < m - ii; omega) (by show rMb (if j = j then _ else _) = _; rw [if_pos rfl]) (.inl ⟨rfl, hjn⟩) (fun i hi hne => ⟨hi, (by show rMb (if i = j then _ else _) = rMb _; rw [if_neg hne])⟩)
        · exact rfl
        · assumption
        · exact rfl
        · exact rfl
        · exact rfl
        · exact rfl
        · exact rfl
        · exact rfl
        · exact rfl
        · exact rfl
        · exact rfl
        · exact rfl
        · exact Nat.le_refl _
        · exact rg_do rfl rfl rfl ho
        · exact rfl
        · exact rfl
        · exact rfl
        · exact rfl
        · exact rfl
        · exact rfl
        · exact rfl
        · exact rfl
        · exact fun _ => rfl
        · exact rfl
        · exact rfl
        · exact rfl
        · exact rfl
        · exact rfl
        · exact rfl
        · exact rfl
        · exact rfl
        · exact rfl
        · exact Nat.le_refl _
        · exact .inl ⟨rfl, rfl⟩
        · assumption
        · assumption
        · (simp [Nat.blt_eq]; omega)
        · assumption
        · assumption
        · assumption
        · assumption
        · assumption
        · assumption
        · assumption
        · assumption
        · assumption
        · assumption
        · assumption
        · assumption
        · assumption
        · exact eqF hk4
        · exact eqF hk3
        · exact eqF hk2n
        · exact eqF hk1
        · exact eqF hk0
        · (simp [Nat.blt_eq]; omega)
        · (simp [Nat.blt_eq]; omega)
        · (simp [Nat.blt_eq]; omega)
      | kk + 3, ho, hl, hoo, hok, hbS =>
        have ho0 := hoo
        have q0 : lrow 6703903964971298549787012499102923063739682910296196688861780721860882015036773488400937149083451713845015929093243025426876941405973284973216824503042048 2 (rgT m f ii x).M j (0 + ((IntKind.u64.wrap (avInt (f (0 + ii) 1))).tmod (IntKind.u64.wrap (Int.ofNat x.n))).toNat) 0 = AV.nilp := (hl 0).trans rfl
        have q1 : lrow 6703903964971298549787012499102923063739682910296196688861780721860882015036773488400937149083451713845015929093243025426876941405973284973216824503042048 2 (rgT m f ii x).M j (0 + ((IntKind.u64.wrap (avInt (f (0 + ii) 1))).tmod (IntKind.u64.wrap (Int.ofNat x.n))).toNat) 1 = AV.nilp := (hl 1).trans rfl
        have q2 : lrow 6703903964971298549787012499102923063739682910296196688861780721860882015036773488400937149083451713845015929093243025426876941405973284973216824503042048 2 (rgT m f ii x).M j (0 + ((IntKind.u64.wrap (avInt (f (0 + ii) 1))).tmod (IntKind.u64.wrap (Int.ofNat x.n))).toNat) 2 = AV.nilp := (hl 2).trans rfl
        have q3 : lrow 6703903964971298549787012499102923063739682910296196688861780721860882015036773488400937149083451713845015929093243025426876941405973284973216824503042048 2 (rgT m f ii x).M j (0 + ((IntKind.u64.wrap (avInt (f (0 + ii) 1))).tmod (IntKind.u64.wrap (Int.ofNat x.n))).toNat) 3 = AV.ptr 900 0 0 := (hl 3).trans rfl
        have q4 : lrow 6703903964971298549787012499102923063739682910296196688861780721860882015036773488400937149083451713845015929093243025426876941405973284973216824503042048 2 (rgT m f ii x).M j (0 + ((IntKind.u64.wrap (avInt (f (0 + ii) 1))).tmod (IntKind.u64.wrap (Int.ofNat x.n))).toNat) 4 = AV.ptr 901 0 0 := (hl 4).trans rfl
        clear hl
        refine fam_norm (F := rgF) (s0 := rgU m f q h) (X := Nat × RT) (T := fun z => rgT m f z.1 z.2) (x := (ii, x)) (ii + 1, rtDo2 x j (RO.mk (kk + 3) av th hi nw e h2 dn)) j true true (rg9_1 ..) (ob_cons rfl (ob_cons rfl (ob_cons rfl (ob_cons rfl (ob_cons rfl (ob_cons rfl (ob_cons ?_ (ob_cons rfl (ob_cons ?_ (ob_cons ?_ (ob_cons ?_ (ob_cons ?_ (ob_cons rfl (ob_cons ?_ (ob_cons ?_ (ob_cons ?_ (ob_cons ?_ (ob_cons ?_ (ob_cons rfl (ob_cons ?_ (ob_cons ?_ (ob_cons rfl (ob_cons rfl (ob_cons rfl (ob_cons rfl (ob_cons rfl (ob_cons (Nat.le_refl _) (ob_cons (.inl ⟨rfl, rfl⟩) (ob_cons ?_ (ob_cons ?_ (ob_cons ?_ (ob_cons ?_ (ob_cons ?_ (ob_cons ?_ (ob_cons ?_ (ob_cons ?_ (ob_cons ?_ (ob_cons rfl (ob_cons ?_ (ob_cons rfl (ob_cons ?_ (ob_cons ?_ (ob_cons ?_ (ob_cons ?_ (ob_cons ?_ (ob_cons ?_ (ob_cons ?_ (ob_cons ?_ (ob_cons rfl (ob_cons ?_ (ob_cons ?_ (ob_cons ?_ (ob_cons ?_ (ob_cons (Nat.le_refl _) (ob_cons ?_ (ob_cons ?_ (ob_cons ?_ (ob_cons rfl (ob_cons ?_ (ob_cons rfl (ob_cons rfl (ob_cons rfl (ob_cons ?_ (ob_cons ?_ (ob_cons ?_ (ob_cons ?_ (ob_cons ?_ (ob_cons ?_ (ob_cons ?_ (ob_cons ?_ (ob_cons ?_ (ob_cons ?_ (ob_cons ?_ (ob_cons ?_ (ob_cons ?_ (ob_cons ?_ (ob_cons ?_ (ob_cons ?_ (ob_cons ?_ ob_nil))))))))))))))))))))))))))))))))))))))))))))))))))))))))))))))))))))))))))))))) (fun _ => hjn) (by show rMb (x.O j) = _; rw [ho]) hok (by show m - (ii + 1) < m - ii; omega) (by show rMb (if j = j then _ else _) = _; rw [if_pos rfl]) (.inl ⟨rfl, hjn⟩) (fun i hi hne => ⟨hi, (by show rMb (if i = j then _ else _) = rMb _; rw [if_neg hne])⟩)
        · exact rfl
        · assumption
        · exact rfl
        · exact rfl
        · exact rfl
        · exact rfl
        · exact rfl
        · exact rfl
        · exact rfl
        · exact rfl
        · exact Nat.le_refl _
        · exact rg_do rfl rfl rfl ho
        · exact rfl
        · exact rfl
        · exact rfl
        · exact rfl
        · exact rfl
        · exact rfl
        · exact rfl
        · exact rfl
        · exact fun _ => rfl
        · exact rfl
        · exact rfl
        · exact rfl
        · exact rfl
        · exact rfl
        · exact rfl
        · exact rfl
        · exact rfl
        · exact rfl
        · exact Nat.le_refl _
        · exact .inl ⟨rfl, rfl⟩
        · assumption
        · assumption
        · (simp [Nat.blt_eq]; omega)
        · assumption
        · assumption
        · assumption
        · assumption
        · assumption
        · assumption
        · assumption
        · assumption
        · assumption
        · assumption
        · assumption
        · assumption
        · exact eqF hk4
        · exact eqF hk3
        · exact eqF hk2n
        · exact eqF hk1
        · exact eqF hk0
        · (simp [Nat.blt_eq]; omega)
        · (simp [Nat.blt_eq]; omega)
        · (simp [Nat.blt_eq]; omega)
    · obtain rfl : m = ii := by omega
      rw [← hx]
      refine fam_exit (F := rgF) (s0 := rgU m f q h) (X := Nat × RT) (T := fun z => rgT m f z.1 z.2) (x := (m, x)) x.n false (rge_1 ..) (by simp) (ob_cons rfl (ob_cons rfl (ob_cons rfl (ob_cons rfl (ob_cons rfl (ob_cons rfl (ob_cons rfl (ob_cons rfl (ob_cons rfl (ob_cons rfl (ob_cons (Nat.le_refl _) (ob_cons (.inl ⟨rfl, rfl⟩) (ob_cons rfl (ob_cons rfl (ob_cons rfl (ob_cons rfl (ob_cons rfl (ob_cons rfl (ob_cons rfl (ob_cons rfl (ob_cons (fun _ => rfl) (ob_cons rfl (ob_cons rfl (ob_cons rfl (ob_cons rfl (ob_cons rfl (ob_cons rfl (ob_cons rfl (ob_cons rfl (ob_cons rfl (ob_cons rfl (ob_cons rfl (ob_cons rfl (ob_cons (Nat.le_refl _) (ob_cons (.inl ⟨rfl, rfl⟩) (ob_cons ?_ ob_nil)))))))))))))))))))))))))))))))))))) (fun h => by cases h) rfl
      · (simp; done)
end Go.Proofs.Ytephpkfajobhmaa
