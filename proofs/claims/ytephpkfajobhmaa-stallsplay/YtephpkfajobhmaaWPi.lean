/-
  StallsPlay: its loop.
-/
import Derived.Test.YtephpkfajobhmaaWPiDef
set_option linter.unusedSimpArgs false
set_option linter.unusedVariables false
namespace Go.Proofs.Ytephpkfajobhmaa
open Go.Ev
theorem sg0_1 (m : Nat) (f : Nat → Nat → AV) (ii : Nat) (x : ST) : roundB EPg 3000 sgL (B.h0F sgF (sgU m f)) [(8, Src.nm 1003), (9, Src.nm 1006), (10, Src.nm 10), (900, Src.nm 1001), (901, Src.nm 1004)] (B.locSt sgF (sgT m f ii x) false (sMb (x.O x.n)) x.n []) [Hint.b true, Hint.l 0, Hint.b true, Hint.b true] (B.locSt sgF (sgT m f (ii + 1) (stAdd x (SO.mk 0 0 0))) true (sMb (SO.mk 0 0 0)) x.n []) =
 some (Ex.norm, [(0 : Nat) = 0,
 m = m,
 (none : Option Nat) = none,
 (0 : Nat) = 0,
 (0 : Nat) = 0,
 (0 : Nat) = 0,
 x.n + 1 = (stAdd x (SO.mk 0 0 0)).n,
 (none : Option Nat) = none,
 (0 : Nat) = 0,
 x.n + 1 = (stAdd x (SO.mk 0 0 0)).n,
 (none : Option Nat) = none,
 IntKind.i64.wrap (Int.ofNat ii + 1) = Int.ofNat (ii + 1),
 (0 : Int) = 0,
 (0 : Int) = 0,
 (0 : Int) = 0,
 (0 : Int) = 0,
 false = false,
 (sgT m f (ii + 1) (stAdd x (SO.mk 0 0 0))).n ≤ x.n + 1,
 ∀ (i : Nat), i < (sgT m f (ii + 1) (stAdd x (SO.mk 0 0 0))).n → rowV (CM.mk 8 6703903964971298549787012499102923063739682910296196688861780721860882015036773488400937149083451713845015929093243025426876941405973284973216824503042048 [(8, Src.nm 1003), (9, Src.nm 1006), (10, Src.nm 10), (900, Src.nm 1001), (901, Src.nm 1004)]) sgF.sh 0 (fun j => if i < x.n then lrow 6703903964971298549787012499102923063739682910296196688861780721860882015036773488400937149083451713845015929093243025426876941405973284973216824503042048 2 (sgT m f ii x).M x.n (0 + i) j else rowsOf 1 [oneOrAll [AV.ptr 1001 0 0]] (i - x.n) j) (lrow 6703903964971298549787012499102923063739682910296196688861780721860882015036773488400937149083451713845015929093243025426876941405973284973216824503042048 2 (sgT m f (ii + 1) (stAdd x (SO.mk 0 0 0))).M x.n i),
 false = false,
 (sgT m f (ii + 1) (stAdd x (SO.mk 0 0 0))).n ≤ x.n + 1,
 ∀ (i : Nat), i < (sgT m f (ii + 1) (stAdd x (SO.mk 0 0 0))).n → rowV (CM.mk 8 6703903964971298549787012499102923063739682910296196688861780721860882015036773488400937149083451713845015929093243025426876941405973284973216824503042048 [(8, Src.nm 1003), (9, Src.nm 1006), (10, Src.nm 10), (900, Src.nm 1001), (901, Src.nm 1004)]) sgF.sh2 0 (fun j => if i < x.n then lrow 6703903964971298549787012499102923063739682910296196688861780721860882015036773488400937149083451713845015929093243025426876941405973284973216824503042048 2 (sgT m f ii x).M x.n (0 + i) (j + 1) else rowsOf 1 [oneOrAll [AV.ptr 1004 0 0]] (i - x.n) j) fun c => lrow 6703903964971298549787012499102923063739682910296196688861780721860882015036773488400937149083451713845015929093243025426876941405973284973216824503042048 2 (sgT m f (ii + 1) (stAdd x (SO.mk 0 0 0))).M x.n i (c + 1),
 (0 : Nat) = 0,
 (0 : Nat) = 0,
 (0 : Nat) = 0,
 (0 : Nat) = 0,
 true = true,
 m ≤ m,
 f = f ∧ plainSh asSh = true ∨ ∀ (i : Nat), i < m → rowOb asSh 0 (f i) (f i),
 x.S.st = (stAdd x (SO.mk 0 0 0)).S.st,
 x.S.L.c = (stAdd x (SO.mk 0 0 0)).S.L.c,
 x.S.L.k = (stAdd x (SO.mk 0 0 0)).S.L.k,
 x.S.L.a = (stAdd x (SO.mk 0 0 0)).S.L.a,
 x.S.L.f = (stAdd x (SO.mk 0 0 0)).S.L.f,
 x.S.L.w = (stAdd x (SO.mk 0 0 0)).S.L.w,
 x.S.L.i = (stAdd x (SO.mk 0 0 0)).S.L.i,
 x.S.L.d = (stAdd x (SO.mk 0 0 0)).S.L.d,
 ∀ (k : List Int), x.S.M k = (stAdd x (SO.mk 0 0 0)).S.M k,
 (0 : Nat) = 0,
 x.R.D.n = (stAdd x (SO.mk 0 0 0)).R.D.n,
 (none : Option Nat) = none,
 x.R.st = (stAdd x (SO.mk 0 0 0)).R.st,
 x.R.L.c = (stAdd x (SO.mk 0 0 0)).R.L.c,
 x.R.L.k = (stAdd x (SO.mk 0 0 0)).R.L.k,
 x.R.L.a = (stAdd x (SO.mk 0 0 0)).R.L.a,
 x.R.L.f = (stAdd x (SO.mk 0 0 0)).R.L.f,
 x.R.L.w = (stAdd x (SO.mk 0 0 0)).R.L.w,
 x.R.L.i = (stAdd x (SO.mk 0 0 0)).R.L.i,
 x.R.L.d = (stAdd x (SO.mk 0 0 0)).R.L.d,
 false = false,
 (stAdd x (SO.mk 0 0 0)).R.D.n ≤ x.R.D.n,
 wdF (stAdd x (SO.mk 0 0 0)).R.D.W = wdF x.R.D.W ∧ plainSh wSh = true ∨ ∀ (i : Nat), i < (stAdd x (SO.mk 0 0 0)).R.D.n → rowOb wSh 0 (wdF x.R.D.W i) (wdF (stAdd x (SO.mk 0 0 0)).R.D.W i),
 Both x.S x.R,
 ((x.n + 1) * 8).ble 70368744177664 = true,
 (0 + x.n).ble (sgT m f ii x).n = true,
 decide (avInt (f (0 + ii) 1) < 0) = true,
 ((x.n + 1) * 8).ble 70368744177664 = true,
 (0 + x.n).ble (sgT m f ii x).n = true,
 decide (avInt (f (0 + ii) 1) < 0) = true,
 (avInt (f (0 + ii) 0)).tmod 5 = 0,
 (0 + ii).blt m = true,
 (ii.blt m && decide (0 ≤ Int.ofNat ii)) = true,
 decide (Int.ofNat ii < Int.ofNat m) = true]) := by kernel_rfl
theorem sg1_1 (m : Nat) (f : Nat → Nat → AV) (ii : Nat) (x : ST) : roundB EPg 3000 sgL (B.h0F sgF (sgU m f)) [(8, Src.nm 1003), (9, Src.nm 1006), (10, Src.nm 10), (900, Src.nm 1001), (901, Src.nm 1004)] (B.locSt sgF (sgT m f ii x) false (sMb (x.O x.n)) x.n []) [Hint.b true, Hint.l 0, Hint.b false, Hint.b true, Hint.b false, Hint.b true] (B.locSt sgF (sgT m f (ii + 1) (stAdd x (SO.mk 0 0 0))) true (sMb (SO.mk 0 0 0)) x.n []) =
 some (Ex.norm, [(0 : Nat) = 0,
 m = m,
 (none : Option Nat) = none,
 (0 : Nat) = 0,
 (0 : Nat) = 0,
 (0 : Nat) = 0,
 x.n + 1 = (stAdd x (SO.mk 0 0 0)).n,
 (none : Option Nat) = none,
 (0 : Nat) = 0,
 x.n + 1 = (stAdd x (SO.mk 0 0 0)).n,
 (none : Option Nat) = none,
 IntKind.i64.wrap (Int.ofNat ii + 1) = Int.ofNat (ii + 1),
 (0 : Int) = 0,
 (0 : Int) = 0,
 (0 : Int) = 0,
 (0 : Int) = 0,
 false = false,
 (sgT m f (ii + 1) (stAdd x (SO.mk 0 0 0))).n ≤ x.n + 1,
 ∀ (i : Nat), i < (sgT m f (ii + 1) (stAdd x (SO.mk 0 0 0))).n → rowV (CM.mk 8 6703903964971298549787012499102923063739682910296196688861780721860882015036773488400937149083451713845015929093243025426876941405973284973216824503042048 [(8, Src.nm 1003), (9, Src.nm 1006), (10, Src.nm 10), (900, Src.nm 1001), (901, Src.nm 1004)]) sgF.sh 0 (fun j => if i < x.n then lrow 6703903964971298549787012499102923063739682910296196688861780721860882015036773488400937149083451713845015929093243025426876941405973284973216824503042048 2 (sgT m f ii x).M x.n (0 + i) j else rowsOf 1 [oneOrAll [AV.ptr 1001 0 0]] (i - x.n) j) (lrow 6703903964971298549787012499102923063739682910296196688861780721860882015036773488400937149083451713845015929093243025426876941405973284973216824503042048 2 (sgT m f (ii + 1) (stAdd x (SO.mk 0 0 0))).M x.n i),
 false = false,
 (sgT m f (ii + 1) (stAdd x (SO.mk 0 0 0))).n ≤ x.n + 1,
 ∀ (i : Nat), i < (sgT m f (ii + 1) (stAdd x (SO.mk 0 0 0))).n → rowV (CM.mk 8 6703903964971298549787012499102923063739682910296196688861780721860882015036773488400937149083451713845015929093243025426876941405973284973216824503042048 [(8, Src.nm 1003), (9, Src.nm 1006), (10, Src.nm 10), (900, Src.nm 1001), (901, Src.nm 1004)]) sgF.sh2 0 (fun j => if i < x.n then lrow 6703903964971298549787012499102923063739682910296196688861780721860882015036773488400937149083451713845015929093243025426876941405973284973216824503042048 2 (sgT m f ii x).M x.n (0 + i) (j + 1) else rowsOf 1 [oneOrAll [AV.ptr 1004 0 0]] (i - x.n) j) fun c => lrow 6703903964971298549787012499102923063739682910296196688861780721860882015036773488400937149083451713845015929093243025426876941405973284973216824503042048 2 (sgT m f (ii + 1) (stAdd x (SO.mk 0 0 0))).M x.n i (c + 1),
 (0 : Nat) = 0,
 (0 : Nat) = 0,
 (0 : Nat) = 0,
 (0 : Nat) = 0,
 true = true,
 m ≤ m,
 f = f ∧ plainSh asSh = true ∨ ∀ (i : Nat), i < m → rowOb asSh 0 (f i) (f i),
 x.S.st = (stAdd x (SO.mk 0 0 0)).S.st,
 x.S.L.c = (stAdd x (SO.mk 0 0 0)).S.L.c,
 x.S.L.k = (stAdd x (SO.mk 0 0 0)).S.L.k,
 x.S.L.a = (stAdd x (SO.mk 0 0 0)).S.L.a,
 x.S.L.f = (stAdd x (SO.mk 0 0 0)).S.L.f,
 x.S.L.w = (stAdd x (SO.mk 0 0 0)).S.L.w,
 x.S.L.i = (stAdd x (SO.mk 0 0 0)).S.L.i,
 x.S.L.d = (stAdd x (SO.mk 0 0 0)).S.L.d,
 ∀ (k : List Int), x.S.M k = (stAdd x (SO.mk 0 0 0)).S.M k,
 (0 : Nat) = 0,
 x.R.D.n = (stAdd x (SO.mk 0 0 0)).R.D.n,
 (none : Option Nat) = none,
 x.R.st = (stAdd x (SO.mk 0 0 0)).R.st,
 x.R.L.c = (stAdd x (SO.mk 0 0 0)).R.L.c,
 x.R.L.k = (stAdd x (SO.mk 0 0 0)).R.L.k,
 x.R.L.a = (stAdd x (SO.mk 0 0 0)).R.L.a,
 x.R.L.f = (stAdd x (SO.mk 0 0 0)).R.L.f,
 x.R.L.w = (stAdd x (SO.mk 0 0 0)).R.L.w,
 x.R.L.i = (stAdd x (SO.mk 0 0 0)).R.L.i,
 x.R.L.d = (stAdd x (SO.mk 0 0 0)).R.L.d,
 false = false,
 (stAdd x (SO.mk 0 0 0)).R.D.n ≤ x.R.D.n,
 wdF (stAdd x (SO.mk 0 0 0)).R.D.W = wdF x.R.D.W ∧ plainSh wSh = true ∨ ∀ (i : Nat), i < (stAdd x (SO.mk 0 0 0)).R.D.n → rowOb wSh 0 (wdF x.R.D.W i) (wdF (stAdd x (SO.mk 0 0 0)).R.D.W i),
 Both x.S x.R,
 ((x.n + 1) * 8).ble 70368744177664 = true,
 (0 + x.n).ble (sgT m f ii x).n = true,
 decide (avInt (f (0 + ii) 1) > 15) = true,
 decide (avInt (f (0 + ii) 1) < 0) = false,
 ((x.n + 1) * 8).ble 70368744177664 = true,
 (0 + x.n).ble (sgT m f ii x).n = true,
 decide (avInt (f (0 + ii) 1) ≥ 16) = true,
 decide (avInt (f (0 + ii) 1) < 0) = false,
 (avInt (f (0 + ii) 0)).tmod 5 = 0,
 (0 + ii).blt m = true,
 (ii.blt m && decide (0 ≤ Int.ofNat ii)) = true,
 decide (Int.ofNat ii < Int.ofNat m) = true]) := by kernel_rfl
theorem sg2_1 (m : Nat) (f : Nat → Nat → AV) (ii : Nat) (x : ST) : roundB EPg 3000 sgL (B.h0F sgF (sgU m f)) [(8, Src.nm 1003), (9, Src.nm 1006), (10, Src.nm 10), (900, Src.nm 1001), (901, Src.nm 1004)] (B.locSt sgF (sgT m f ii x) false (sMb (x.O x.n)) x.n []) [Hint.b true, Hint.l 0, Hint.b false, Hint.b false, Hint.b false, Hint.b false] (B.locSt sgF (sgT m f (ii + 1) (stAdd x (SO.mk 1 (avInt (f (0 + ii) 1)) 0))) true (sMb (SO.mk 1 (avInt (f (0 + ii) 1)) 0)) x.n []) =
 some (Ex.norm, [(0 : Nat) = 0,
 m = m,
 (none : Option Nat) = none,
 (0 : Nat) = 0,
 (0 : Nat) = 0,
 (0 : Nat) = 0,
 x.n + 1 = (stAdd x (SO.mk 1 (avInt (f (0 + ii) 1)) 0)).n,
 (none : Option Nat) = none,
 (0 : Nat) = 0,
 x.n + 1 = (stAdd x (SO.mk 1 (avInt (f (0 + ii) 1)) 0)).n,
 (none : Option Nat) = none,
 IntKind.i64.wrap (Int.ofNat ii + 1) = Int.ofNat (ii + 1),
 avInt (f (0 + ii) 1) = (SO.mk 1 (avInt (f (0 + ii) 1)) 0).th,
 (0 : Int) = 0,
 avInt (f (0 + ii) 1) = (SO.mk 1 (avInt (f (0 + ii) 1)) 0).th,
 (0 : Int) = 0,
 false = false,
 (sgT m f (ii + 1) (stAdd x (SO.mk 1 (avInt (f (0 + ii) 1)) 0))).n ≤ x.n + 1,
 ∀ (i : Nat), i < (sgT m f (ii + 1) (stAdd x (SO.mk 1 (avInt (f (0 + ii) 1)) 0))).n → rowV (CM.mk 8 6703903964971298549787012499102923063739682910296196688861780721860882015036773488400937149083451713845015929093243025426876941405973284973216824503042048 [(8, Src.nm 1003), (9, Src.nm 1006), (10, Src.nm 10), (900, Src.nm 1001), (901, Src.nm 1004)]) sgF.sh 0 (fun j => if i < x.n then lrow 6703903964971298549787012499102923063739682910296196688861780721860882015036773488400937149083451713845015929093243025426876941405973284973216824503042048 2 (sgT m f ii x).M x.n (0 + i) j else rowsOf 1 [oneOrAll [AV.ptr 1001 0 0]] (i - x.n) j) (lrow 6703903964971298549787012499102923063739682910296196688861780721860882015036773488400937149083451713845015929093243025426876941405973284973216824503042048 2 (sgT m f (ii + 1) (stAdd x (SO.mk 1 (avInt (f (0 + ii) 1)) 0))).M x.n i),
 false = false,
 (sgT m f (ii + 1) (stAdd x (SO.mk 1 (avInt (f (0 + ii) 1)) 0))).n ≤ x.n + 1,
 ∀ (i : Nat), i < (sgT m f (ii + 1) (stAdd x (SO.mk 1 (avInt (f (0 + ii) 1)) 0))).n → rowV (CM.mk 8 6703903964971298549787012499102923063739682910296196688861780721860882015036773488400937149083451713845015929093243025426876941405973284973216824503042048 [(8, Src.nm 1003), (9, Src.nm 1006), (10, Src.nm 10), (900, Src.nm 1001), (901, Src.nm 1004)]) sgF.sh2 0 (fun j => if i < x.n then lrow 6703903964971298549787012499102923063739682910296196688861780721860882015036773488400937149083451713845015929093243025426876941405973284973216824503042048 2 (sgT m f ii x).M x.n (0 + i) (j + 1) else rowsOf 1 [oneOrAll [AV.ptr 1004 0 0]] (i - x.n) j) fun c => lrow 6703903964971298549787012499102923063739682910296196688861780721860882015036773488400937149083451713845015929093243025426876941405973284973216824503042048 2 (sgT m f (ii + 1) (stAdd x (SO.mk 1 (avInt (f (0 + ii) 1)) 0))).M x.n i (c + 1),
 (0 : Nat) = 0,
 (0 : Nat) = 0,
 (0 : Nat) = 0,
 (0 : Nat) = 0,
 true = true,
 m ≤ m,
 f = f ∧ plainSh asSh = true ∨ ∀ (i : Nat), i < m → rowOb asSh 0 (f i) (f i),
 x.S.st = (stAdd x (SO.mk 1 (avInt (f (0 + ii) 1)) 0)).S.st,
 x.S.L.c = (stAdd x (SO.mk 1 (avInt (f (0 + ii) 1)) 0)).S.L.c,
 x.S.L.k = (stAdd x (SO.mk 1 (avInt (f (0 + ii) 1)) 0)).S.L.k,
 x.S.L.a = (stAdd x (SO.mk 1 (avInt (f (0 + ii) 1)) 0)).S.L.a,
 x.S.L.f = (stAdd x (SO.mk 1 (avInt (f (0 + ii) 1)) 0)).S.L.f,
 x.S.L.w = (stAdd x (SO.mk 1 (avInt (f (0 + ii) 1)) 0)).S.L.w,
 x.S.L.i = (stAdd x (SO.mk 1 (avInt (f (0 + ii) 1)) 0)).S.L.i,
 x.S.L.d = (stAdd x (SO.mk 1 (avInt (f (0 + ii) 1)) 0)).S.L.d,
 ∀ (k : List Int), x.S.M k = (stAdd x (SO.mk 1 (avInt (f (0 + ii) 1)) 0)).S.M k,
 (0 : Nat) = 0,
 x.R.D.n = (stAdd x (SO.mk 1 (avInt (f (0 + ii) 1)) 0)).R.D.n,
 (none : Option Nat) = none,
 x.R.st = (stAdd x (SO.mk 1 (avInt (f (0 + ii) 1)) 0)).R.st,
 x.R.L.c = (stAdd x (SO.mk 1 (avInt (f (0 + ii) 1)) 0)).R.L.c,
 x.R.L.k = (stAdd x (SO.mk 1 (avInt (f (0 + ii) 1)) 0)).R.L.k,
 x.R.L.a = (stAdd x (SO.mk 1 (avInt (f (0 + ii) 1)) 0)).R.L.a,
 x.R.L.f = (stAdd x (SO.mk 1 (avInt (f (0 + ii) 1)) 0)).R.L.f,
 x.R.L.w = (stAdd x (SO.mk 1 (avInt (f (0 + ii) 1)) 0)).R.L.w,
 x.R.L.i = (stAdd x (SO.mk 1 (avInt (f (0 + ii) 1)) 0)).R.L.i,
 x.R.L.d = (stAdd x (SO.mk 1 (avInt (f (0 + ii) 1)) 0)).R.L.d,
 false = false,
 (stAdd x (SO.mk 1 (avInt (f (0 + ii) 1)) 0)).R.D.n ≤ x.R.D.n,
 wdF (stAdd x (SO.mk 1 (avInt (f (0 + ii) 1)) 0)).R.D.W = wdF x.R.D.W ∧ plainSh wSh = true ∨ ∀ (i : Nat), i < (stAdd x (SO.mk 1 (avInt (f (0 + ii) 1)) 0)).R.D.n → rowOb wSh 0 (wdF x.R.D.W i) (wdF (stAdd x (SO.mk 1 (avInt (f (0 + ii) 1)) 0)).R.D.W i),
 Both x.S x.R,
 ((x.n + 1) * 8).ble 70368744177664 = true,
 (0 + x.n).ble (sgT m f ii x).n = true,
 decide (avInt (f (0 + ii) 1) > 15) = false,
 decide (avInt (f (0 + ii) 1) < 0) = false,
 ((x.n + 1) * 8).ble 70368744177664 = true,
 (0 + x.n).ble (sgT m f ii x).n = true,
 decide (avInt (f (0 + ii) 1) ≥ 16) = false,
 decide (avInt (f (0 + ii) 1) < 0) = false,
 (avInt (f (0 + ii) 0)).tmod 5 = 0,
 (0 + ii).blt m = true,
 (ii.blt m && decide (0 ≤ Int.ofNat ii)) = true,
 decide (Int.ofNat ii < Int.ofNat m) = true]) := by kernel_rfl
theorem sg3_1 (m : Nat) (f : Nat → Nat → AV) (ii : Nat) (x : ST) : roundB EPg 3000 sgL (B.h0F sgF (sgU m f)) [(8, Src.nm 8), (9, Src.nm 9), (10, Src.nm 1001)] (B.locSt sgF (sgT m f ii x) false (sMb (x.O x.n)) x.n []) [Hint.b true, Hint.b false, Hint.b true] (B.locSt sgF (sgT m f (ii + 1) (ST.mk (mStore x.S (avInt (f (0 + ii) 2)) (avInt (f (0 + ii) 3)) (avInt (f (0 + ii) 4)) (avInt (f (0 + ii) 5))) (rStore x.R (avInt (f (0 + ii) 2)) (avInt (f (0 + ii) 3)) (avInt (f (0 + ii) 4)) (avInt (f (0 + ii) 5))) x.n x.O)) false (sMb (x.O x.n)) x.n []) =
 some (Ex.norm, [(0 : Nat) = 0,
 m = m,
 (none : Option Nat) = none,
 (0 : Nat) = 0,
 (0 : Nat) = 0,
 (0 : Nat) = 0,
 x.n = (ST.mk (mStore x.S (avInt (f (0 + ii) 2)) (avInt (f (0 + ii) 3)) (avInt (f (0 + ii) 4)) (avInt (f (0 + ii) 5))) (rStore x.R (avInt (f (0 + ii) 2)) (avInt (f (0 + ii) 3)) (avInt (f (0 + ii) 4)) (avInt (f (0 + ii) 5))) x.n x.O).n,
 (none : Option Nat) = none,
 (0 : Nat) = 0,
 x.n = (ST.mk (mStore x.S (avInt (f (0 + ii) 2)) (avInt (f (0 + ii) 3)) (avInt (f (0 + ii) 4)) (avInt (f (0 + ii) 5))) (rStore x.R (avInt (f (0 + ii) 2)) (avInt (f (0 + ii) 3)) (avInt (f (0 + ii) 4)) (avInt (f (0 + ii) 5))) x.n x.O).n,
 (none : Option Nat) = none,
 IntKind.i64.wrap (Int.ofNat ii + 1) = Int.ofNat (ii + 1),
 false = false,
 (sgT m f (ii + 1) (ST.mk (mStore x.S (avInt (f (0 + ii) 2)) (avInt (f (0 + ii) 3)) (avInt (f (0 + ii) 4)) (avInt (f (0 + ii) 5))) (rStore x.R (avInt (f (0 + ii) 2)) (avInt (f (0 + ii) 3)) (avInt (f (0 + ii) 4)) (avInt (f (0 + ii) 5))) x.n x.O)).n ≤ (sgT m f ii x).n,
 ∀ (i : Nat), i < (sgT m f (ii + 1) (ST.mk (mStore x.S (avInt (f (0 + ii) 2)) (avInt (f (0 + ii) 3)) (avInt (f (0 + ii) 4)) (avInt (f (0 + ii) 5))) (rStore x.R (avInt (f (0 + ii) 2)) (avInt (f (0 + ii) 3)) (avInt (f (0 + ii) 4)) (avInt (f (0 + ii) 5))) x.n x.O)).n → rowV (CM.mk 8 6703903964971298549787012499102923063739682910296196688861780721860882015036773488400937149083451713845015929093243025426876941405973284973216824503042048 [(8, Src.nm 8), (9, Src.nm 9), (10, Src.nm 1001)]) sgF.sh 0 (lrow 6703903964971298549787012499102923063739682910296196688861780721860882015036773488400937149083451713845015929093243025426876941405973284973216824503042048 2 (sgT m f ii x).M x.n i) (lrow 6703903964971298549787012499102923063739682910296196688861780721860882015036773488400937149083451713845015929093243025426876941405973284973216824503042048 2 (sgT m f (ii + 1) (ST.mk (mStore x.S (avInt (f (0 + ii) 2)) (avInt (f (0 + ii) 3)) (avInt (f (0 + ii) 4)) (avInt (f (0 + ii) 5))) (rStore x.R (avInt (f (0 + ii) 2)) (avInt (f (0 + ii) 3)) (avInt (f (0 + ii) 4)) (avInt (f (0 + ii) 5))) x.n x.O)).M x.n i),
 false = false,
 (sgT m f (ii + 1) (ST.mk (mStore x.S (avInt (f (0 + ii) 2)) (avInt (f (0 + ii) 3)) (avInt (f (0 + ii) 4)) (avInt (f (0 + ii) 5))) (rStore x.R (avInt (f (0 + ii) 2)) (avInt (f (0 + ii) 3)) (avInt (f (0 + ii) 4)) (avInt (f (0 + ii) 5))) x.n x.O)).n ≤ (sgT m f ii x).n,
 ∀ (i : Nat), i < (sgT m f (ii + 1) (ST.mk (mStore x.S (avInt (f (0 + ii) 2)) (avInt (f (0 + ii) 3)) (avInt (f (0 + ii) 4)) (avInt (f (0 + ii) 5))) (rStore x.R (avInt (f (0 + ii) 2)) (avInt (f (0 + ii) 3)) (avInt (f (0 + ii) 4)) (avInt (f (0 + ii) 5))) x.n x.O)).n → rowV (CM.mk 8 6703903964971298549787012499102923063739682910296196688861780721860882015036773488400937149083451713845015929093243025426876941405973284973216824503042048 [(8, Src.nm 8), (9, Src.nm 9), (10, Src.nm 1001)]) sgF.sh2 0 (fun c => lrow 6703903964971298549787012499102923063739682910296196688861780721860882015036773488400937149083451713845015929093243025426876941405973284973216824503042048 2 (sgT m f ii x).M x.n i (c + 1)) fun c => lrow 6703903964971298549787012499102923063739682910296196688861780721860882015036773488400937149083451713845015929093243025426876941405973284973216824503042048 2 (sgT m f (ii + 1) (ST.mk (mStore x.S (avInt (f (0 + ii) 2)) (avInt (f (0 + ii) 3)) (avInt (f (0 + ii) 4)) (avInt (f (0 + ii) 5))) (rStore x.R (avInt (f (0 + ii) 2)) (avInt (f (0 + ii) 3)) (avInt (f (0 + ii) 4)) (avInt (f (0 + ii) 5))) x.n x.O)).M x.n i (c + 1),
 (0 : Nat) = 0,
 (0 : Nat) = 0,
 (0 : Nat) = 0,
 (0 : Nat) = 0,
 true = true,
 m ≤ m,
 f = f ∧ plainSh asSh = true ∨ ∀ (i : Nat), i < m → rowOb asSh 0 (f i) (f i),
 (MS.mk (memPut x.S.M (avInt (f (0 + ii) 2)) (avInt (f (0 + ii) 3)) (avInt (f (0 + ii) 4)) (avInt (f (0 + ii) 5))) (IntKind.i64.wrap (x.S.st + 1)) (LS.mk 2 (avInt (f (0 + ii) 2)) (avInt (f (0 + ii) 3)) (avInt (f (0 + ii) 4)) (mget x.S.M (key (avInt (f (0 + ii) 2)) (avInt (f (0 + ii) 3)) (avInt (f (0 + ii) 4)))) (memIs x.S.M (avInt (f (0 + ii) 2)) (avInt (f (0 + ii) 3)) (avInt (f (0 + ii) 4)) (avInt (f (0 + ii) 5))) false)).st = (ST.mk (mStore x.S (avInt (f (0 + ii) 2)) (avInt (f (0 + ii) 3)) (avInt (f (0 + ii) 4)) (avInt (f (0 + ii) 5))) (rStore x.R (avInt (f (0 + ii) 2)) (avInt (f (0 + ii) 3)) (avInt (f (0 + ii) 4)) (avInt (f (0 + ii) 5))) x.n x.O).S.st,
 (2 : Int) = 2,
 (MS.mk (memPut x.S.M (avInt (f (0 + ii) 2)) (avInt (f (0 + ii) 3)) (avInt (f (0 + ii) 4)) (avInt (f (0 + ii) 5))) (IntKind.i64.wrap (x.S.st + 1)) (LS.mk 2 (avInt (f (0 + ii) 2)) (avInt (f (0 + ii) 3)) (avInt (f (0 + ii) 4)) (mget x.S.M (key (avInt (f (0 + ii) 2)) (avInt (f (0 + ii) 3)) (avInt (f (0 + ii) 4)))) (memIs x.S.M (avInt (f (0 + ii) 2)) (avInt (f (0 + ii) 3)) (avInt (f (0 + ii) 4)) (avInt (f (0 + ii) 5))) false)).L.k = (ST.mk (mStore x.S (avInt (f (0 + ii) 2)) (avInt (f (0 + ii) 3)) (avInt (f (0 + ii) 4)) (avInt (f (0 + ii) 5))) (rStore x.R (avInt (f (0 + ii) 2)) (avInt (f (0 + ii) 3)) (avInt (f (0 + ii) 4)) (avInt (f (0 + ii) 5))) x.n x.O).S.L.k,
 (MS.mk (memPut x.S.M (avInt (f (0 + ii) 2)) (avInt (f (0 + ii) 3)) (avInt (f (0 + ii) 4)) (avInt (f (0 + ii) 5))) (IntKind.i64.wrap (x.S.st + 1)) (LS.mk 2 (avInt (f (0 + ii) 2)) (avInt (f (0 + ii) 3)) (avInt (f (0 + ii) 4)) (mget x.S.M (key (avInt (f (0 + ii) 2)) (avInt (f (0 + ii) 3)) (avInt (f (0 + ii) 4)))) (memIs x.S.M (avInt (f (0 + ii) 2)) (avInt (f (0 + ii) 3)) (avInt (f (0 + ii) 4)) (avInt (f (0 + ii) 5))) false)).L.a = (ST.mk (mStore x.S (avInt (f (0 + ii) 2)) (avInt (f (0 + ii) 3)) (avInt (f (0 + ii) 4)) (avInt (f (0 + ii) 5))) (rStore x.R (avInt (f (0 + ii) 2)) (avInt (f (0 + ii) 3)) (avInt (f (0 + ii) 4)) (avInt (f (0 + ii) 5))) x.n x.O).S.L.a,
 (MS.mk (memPut x.S.M (avInt (f (0 + ii) 2)) (avInt (f (0 + ii) 3)) (avInt (f (0 + ii) 4)) (avInt (f (0 + ii) 5))) (IntKind.i64.wrap (x.S.st + 1)) (LS.mk 2 (avInt (f (0 + ii) 2)) (avInt (f (0 + ii) 3)) (avInt (f (0 + ii) 4)) (mget x.S.M (key (avInt (f (0 + ii) 2)) (avInt (f (0 + ii) 3)) (avInt (f (0 + ii) 4)))) (memIs x.S.M (avInt (f (0 + ii) 2)) (avInt (f (0 + ii) 3)) (avInt (f (0 + ii) 4)) (avInt (f (0 + ii) 5))) false)).L.f = (ST.mk (mStore x.S (avInt (f (0 + ii) 2)) (avInt (f (0 + ii) 3)) (avInt (f (0 + ii) 4)) (avInt (f (0 + ii) 5))) (rStore x.R (avInt (f (0 + ii) 2)) (avInt (f (0 + ii) 3)) (avInt (f (0 + ii) 4)) (avInt (f (0 + ii) 5))) x.n x.O).S.L.f,
 (MS.mk (memPut x.S.M (avInt (f (0 + ii) 2)) (avInt (f (0 + ii) 3)) (avInt (f (0 + ii) 4)) (avInt (f (0 + ii) 5))) (IntKind.i64.wrap (x.S.st + 1)) (LS.mk 2 (avInt (f (0 + ii) 2)) (avInt (f (0 + ii) 3)) (avInt (f (0 + ii) 4)) (mget x.S.M (key (avInt (f (0 + ii) 2)) (avInt (f (0 + ii) 3)) (avInt (f (0 + ii) 4)))) (memIs x.S.M (avInt (f (0 + ii) 2)) (avInt (f (0 + ii) 3)) (avInt (f (0 + ii) 4)) (avInt (f (0 + ii) 5))) false)).L.w = (ST.mk (mStore x.S (avInt (f (0 + ii) 2)) (avInt (f (0 + ii) 3)) (avInt (f (0 + ii) 4)) (avInt (f (0 + ii) 5))) (rStore x.R (avInt (f (0 + ii) 2)) (avInt (f (0 + ii) 3)) (avInt (f (0 + ii) 4)) (avInt (f (0 + ii) 5))) x.n x.O).S.L.w,
 (MS.mk (memPut x.S.M (avInt (f (0 + ii) 2)) (avInt (f (0 + ii) 3)) (avInt (f (0 + ii) 4)) (avInt (f (0 + ii) 5))) (IntKind.i64.wrap (x.S.st + 1)) (LS.mk 2 (avInt (f (0 + ii) 2)) (avInt (f (0 + ii) 3)) (avInt (f (0 + ii) 4)) (mget x.S.M (key (avInt (f (0 + ii) 2)) (avInt (f (0 + ii) 3)) (avInt (f (0 + ii) 4)))) (memIs x.S.M (avInt (f (0 + ii) 2)) (avInt (f (0 + ii) 3)) (avInt (f (0 + ii) 4)) (avInt (f (0 + ii) 5))) false)).L.i = (ST.mk (mStore x.S (avInt (f (0 + ii) 2)) (avInt (f (0 + ii) 3)) (avInt (f (0 + ii) 4)) (avInt (f (0 + ii) 5))) (rStore x.R (avInt (f (0 + ii) 2)) (avInt (f (0 + ii) 3)) (avInt (f (0 + ii) 4)) (avInt (f (0 + ii) 5))) x.n x.O).S.L.i,
 (MS.mk (memPut x.S.M (avInt (f (0 + ii) 2)) (avInt (f (0 + ii) 3)) (avInt (f (0 + ii) 4)) (avInt (f (0 + ii) 5))) (IntKind.i64.wrap (x.S.st + 1)) (LS.mk 2 (avInt (f (0 + ii) 2)) (avInt (f (0 + ii) 3)) (avInt (f (0 + ii) 4)) (mget x.S.M (key (avInt (f (0 + ii) 2)) (avInt (f (0 + ii) 3)) (avInt (f (0 + ii) 4)))) (memIs x.S.M (avInt (f (0 + ii) 2)) (avInt (f (0 + ii) 3)) (avInt (f (0 + ii) 4)) (avInt (f (0 + ii) 5))) false)).L.d = (ST.mk (mStore x.S (avInt (f (0 + ii) 2)) (avInt (f (0 + ii) 3)) (avInt (f (0 + ii) 4)) (avInt (f (0 + ii) 5))) (rStore x.R (avInt (f (0 + ii) 2)) (avInt (f (0 + ii) 3)) (avInt (f (0 + ii) 4)) (avInt (f (0 + ii) 5))) x.n x.O).S.L.d,
 ∀ (k : List Int), (MS.mk (memPut x.S.M (avInt (f (0 + ii) 2)) (avInt (f (0 + ii) 3)) (avInt (f (0 + ii) 4)) (avInt (f (0 + ii) 5))) (IntKind.i64.wrap (x.S.st + 1)) (LS.mk 2 (avInt (f (0 + ii) 2)) (avInt (f (0 + ii) 3)) (avInt (f (0 + ii) 4)) (mget x.S.M (key (avInt (f (0 + ii) 2)) (avInt (f (0 + ii) 3)) (avInt (f (0 + ii) 4)))) (memIs x.S.M (avInt (f (0 + ii) 2)) (avInt (f (0 + ii) 3)) (avInt (f (0 + ii) 4)) (avInt (f (0 + ii) 5))) false)).M k = (ST.mk (mStore x.S (avInt (f (0 + ii) 2)) (avInt (f (0 + ii) 3)) (avInt (f (0 + ii) 4)) (avInt (f (0 + ii) 5))) (rStore x.R (avInt (f (0 + ii) 2)) (avInt (f (0 + ii) 3)) (avInt (f (0 + ii) 4)) (avInt (f (0 + ii) 5))) x.n x.O).S.M k,
 (0 : Nat) = 0,
 (dPut (dOf x.R.D.n (wdF x.R.D.W)) (avInt (f (0 + ii) 2)) (avInt (f (0 + ii) 3)) (avInt (f (0 + ii) 4)) (avInt (f (0 + ii) 5))).n = (ST.mk (mStore x.S (avInt (f (0 + ii) 2)) (avInt (f (0 + ii) 3)) (avInt (f (0 + ii) 4)) (avInt (f (0 + ii) 5))) (rStore x.R (avInt (f (0 + ii) 2)) (avInt (f (0 + ii) 3)) (avInt (f (0 + ii) 4)) (avInt (f (0 + ii) 5))) x.n x.O).R.D.n,
 (none : Option Nat) = none,
 IntKind.i64.wrap (x.R.st + 1) = (ST.mk (mStore x.S (avInt (f (0 + ii) 2)) (avInt (f (0 + ii) 3)) (avInt (f (0 + ii) 4)) (avInt (f (0 + ii) 5))) (rStore x.R (avInt (f (0 + ii) 2)) (avInt (f (0 + ii) 3)) (avInt (f (0 + ii) 4)) (avInt (f (0 + ii) 5))) x.n x.O).R.st,
 (2 : Int) = 2,
 (LS.mk 2 (avInt (f (0 + ii) 2)) (avInt (f (0 + ii) 3)) (avInt (f (0 + ii) 4)) (dWord (dOf x.R.D.n (wdF x.R.D.W)) (avInt (f (0 + ii) 2)) (avInt (f (0 + ii) 3)) (avInt (f (0 + ii) 4))) (dWord (dPut (dOf x.R.D.n (wdF x.R.D.W)) (avInt (f (0 + ii) 2)) (avInt (f (0 + ii) 3)) (avInt (f (0 + ii) 4)) (avInt (f (0 + ii) 5))) (avInt (f (0 + ii) 2)) (avInt (f (0 + ii) 3)) (avInt (f (0 + ii) 4))) false).k = (ST.mk (mStore x.S (avInt (f (0 + ii) 2)) (avInt (f (0 + ii) 3)) (avInt (f (0 + ii) 4)) (avInt (f (0 + ii) 5))) (rStore x.R (avInt (f (0 + ii) 2)) (avInt (f (0 + ii) 3)) (avInt (f (0 + ii) 4)) (avInt (f (0 + ii) 5))) x.n x.O).R.L.k,
 (LS.mk 2 (avInt (f (0 + ii) 2)) (avInt (f (0 + ii) 3)) (avInt (f (0 + ii) 4)) (dWord (dOf x.R.D.n (wdF x.R.D.W)) (avInt (f (0 + ii) 2)) (avInt (f (0 + ii) 3)) (avInt (f (0 + ii) 4))) (dWord (dPut (dOf x.R.D.n (wdF x.R.D.W)) (avInt (f (0 + ii) 2)) (avInt (f (0 + ii) 3)) (avInt (f (0 + ii) 4)) (avInt (f (0 + ii) 5))) (avInt (f (0 + ii) 2)) (avInt (f (0 + ii) 3)) (avInt (f (0 + ii) 4))) false).a = (ST.mk (mStore x.S (avInt (f (0 + ii) 2)) (avInt (f (0 + ii) 3)) (avInt (f (0 + ii) 4)) (avInt (f (0 + ii) 5))) (rStore x.R (avInt (f (0 + ii) 2)) (avInt (f (0 + ii) 3)) (avInt (f (0 + ii) 4)) (avInt (f (0 + ii) 5))) x.n x.O).R.L.a,
 (LS.mk 2 (avInt (f (0 + ii) 2)) (avInt (f (0 + ii) 3)) (avInt (f (0 + ii) 4)) (dWord (dOf x.R.D.n (wdF x.R.D.W)) (avInt (f (0 + ii) 2)) (avInt (f (0 + ii) 3)) (avInt (f (0 + ii) 4))) (dWord (dPut (dOf x.R.D.n (wdF x.R.D.W)) (avInt (f (0 + ii) 2)) (avInt (f (0 + ii) 3)) (avInt (f (0 + ii) 4)) (avInt (f (0 + ii) 5))) (avInt (f (0 + ii) 2)) (avInt (f (0 + ii) 3)) (avInt (f (0 + ii) 4))) false).f = (ST.mk (mStore x.S (avInt (f (0 + ii) 2)) (avInt (f (0 + ii) 3)) (avInt (f (0 + ii) 4)) (avInt (f (0 + ii) 5))) (rStore x.R (avInt (f (0 + ii) 2)) (avInt (f (0 + ii) 3)) (avInt (f (0 + ii) 4)) (avInt (f (0 + ii) 5))) x.n x.O).R.L.f,
 (LS.mk 2 (avInt (f (0 + ii) 2)) (avInt (f (0 + ii) 3)) (avInt (f (0 + ii) 4)) (dWord (dOf x.R.D.n (wdF x.R.D.W)) (avInt (f (0 + ii) 2)) (avInt (f (0 + ii) 3)) (avInt (f (0 + ii) 4))) (dWord (dPut (dOf x.R.D.n (wdF x.R.D.W)) (avInt (f (0 + ii) 2)) (avInt (f (0 + ii) 3)) (avInt (f (0 + ii) 4)) (avInt (f (0 + ii) 5))) (avInt (f (0 + ii) 2)) (avInt (f (0 + ii) 3)) (avInt (f (0 + ii) 4))) false).w = (ST.mk (mStore x.S (avInt (f (0 + ii) 2)) (avInt (f (0 + ii) 3)) (avInt (f (0 + ii) 4)) (avInt (f (0 + ii) 5))) (rStore x.R (avInt (f (0 + ii) 2)) (avInt (f (0 + ii) 3)) (avInt (f (0 + ii) 4)) (avInt (f (0 + ii) 5))) x.n x.O).R.L.w,
 (LS.mk 2 (avInt (f (0 + ii) 2)) (avInt (f (0 + ii) 3)) (avInt (f (0 + ii) 4)) (dWord (dOf x.R.D.n (wdF x.R.D.W)) (avInt (f (0 + ii) 2)) (avInt (f (0 + ii) 3)) (avInt (f (0 + ii) 4))) (dWord (dPut (dOf x.R.D.n (wdF x.R.D.W)) (avInt (f (0 + ii) 2)) (avInt (f (0 + ii) 3)) (avInt (f (0 + ii) 4)) (avInt (f (0 + ii) 5))) (avInt (f (0 + ii) 2)) (avInt (f (0 + ii) 3)) (avInt (f (0 + ii) 4))) false).i = (ST.mk (mStore x.S (avInt (f (0 + ii) 2)) (avInt (f (0 + ii) 3)) (avInt (f (0 + ii) 4)) (avInt (f (0 + ii) 5))) (rStore x.R (avInt (f (0 + ii) 2)) (avInt (f (0 + ii) 3)) (avInt (f (0 + ii) 4)) (avInt (f (0 + ii) 5))) x.n x.O).R.L.i,
 (LS.mk 2 (avInt (f (0 + ii) 2)) (avInt (f (0 + ii) 3)) (avInt (f (0 + ii) 4)) (dWord (dOf x.R.D.n (wdF x.R.D.W)) (avInt (f (0 + ii) 2)) (avInt (f (0 + ii) 3)) (avInt (f (0 + ii) 4))) (dWord (dPut (dOf x.R.D.n (wdF x.R.D.W)) (avInt (f (0 + ii) 2)) (avInt (f (0 + ii) 3)) (avInt (f (0 + ii) 4)) (avInt (f (0 + ii) 5))) (avInt (f (0 + ii) 2)) (avInt (f (0 + ii) 3)) (avInt (f (0 + ii) 4))) false).d = (ST.mk (mStore x.S (avInt (f (0 + ii) 2)) (avInt (f (0 + ii) 3)) (avInt (f (0 + ii) 4)) (avInt (f (0 + ii) 5))) (rStore x.R (avInt (f (0 + ii) 2)) (avInt (f (0 + ii) 3)) (avInt (f (0 + ii) 4)) (avInt (f (0 + ii) 5))) x.n x.O).R.L.d,
 false = false,
 (ST.mk (mStore x.S (avInt (f (0 + ii) 2)) (avInt (f (0 + ii) 3)) (avInt (f (0 + ii) 4)) (avInt (f (0 + ii) 5))) (rStore x.R (avInt (f (0 + ii) 2)) (avInt (f (0 + ii) 3)) (avInt (f (0 + ii) 4)) (avInt (f (0 + ii) 5))) x.n x.O).R.D.n ≤ (dPut (dOf x.R.D.n (wdF x.R.D.W)) (avInt (f (0 + ii) 2)) (avInt (f (0 + ii) 3)) (avInt (f (0 + ii) 4)) (avInt (f (0 + ii) 5))).n,
 wdF (ST.mk (mStore x.S (avInt (f (0 + ii) 2)) (avInt (f (0 + ii) 3)) (avInt (f (0 + ii) 4)) (avInt (f (0 + ii) 5))) (rStore x.R (avInt (f (0 + ii) 2)) (avInt (f (0 + ii) 3)) (avInt (f (0 + ii) 4)) (avInt (f (0 + ii) 5))) x.n x.O).R.D.W = wdF (dPut (dOf x.R.D.n (wdF x.R.D.W)) (avInt (f (0 + ii) 2)) (avInt (f (0 + ii) 3)) (avInt (f (0 + ii) 4)) (avInt (f (0 + ii) 5))).W ∧ plainSh wSh = true ∨ ∀ (i : Nat), i < (ST.mk (mStore x.S (avInt (f (0 + ii) 2)) (avInt (f (0 + ii) 3)) (avInt (f (0 + ii) 4)) (avInt (f (0 + ii) 5))) (rStore x.R (avInt (f (0 + ii) 2)) (avInt (f (0 + ii) 3)) (avInt (f (0 + ii) 4)) (avInt (f (0 + ii) 5))) x.n x.O).R.D.n → rowOb wSh 0 (wdF (dPut (dOf x.R.D.n (wdF x.R.D.W)) (avInt (f (0 + ii) 2)) (avInt (f (0 + ii) 3)) (avInt (f (0 + ii) 4)) (avInt (f (0 + ii) 5))).W i) (wdF (ST.mk (mStore x.S (avInt (f (0 + ii) 2)) (avInt (f (0 + ii) 3)) (avInt (f (0 + ii) 4)) (avInt (f (0 + ii) 5))) (rStore x.R (avInt (f (0 + ii) 2)) (avInt (f (0 + ii) 3)) (avInt (f (0 + ii) 4)) (avInt (f (0 + ii) 5))) x.n x.O).R.D.W i),
 Both (MS.mk (memPut x.S.M (avInt (f (0 + ii) 2)) (avInt (f (0 + ii) 3)) (avInt (f (0 + ii) 4)) (avInt (f (0 + ii) 5))) (IntKind.i64.wrap (x.S.st + 1)) (LS.mk 2 (avInt (f (0 + ii) 2)) (avInt (f (0 + ii) 3)) (avInt (f (0 + ii) 4)) (mget x.S.M (key (avInt (f (0 + ii) 2)) (avInt (f (0 + ii) 3)) (avInt (f (0 + ii) 4)))) (memIs x.S.M (avInt (f (0 + ii) 2)) (avInt (f (0 + ii) 3)) (avInt (f (0 + ii) 4)) (avInt (f (0 + ii) 5))) false)) (mkR (dPut (dOf x.R.D.n (wdF x.R.D.W)) (avInt (f (0 + ii) 2)) (avInt (f (0 + ii) 3)) (avInt (f (0 + ii) 4)) (avInt (f (0 + ii) 5))).n (wdF (dPut (dOf x.R.D.n (wdF x.R.D.W)) (avInt (f (0 + ii) 2)) (avInt (f (0 + ii) 3)) (avInt (f (0 + ii) 4)) (avInt (f (0 + ii) 5))).W) (IntKind.i64.wrap (x.R.st + 1)) (LS.mk 2 (avInt (f (0 + ii) 2)) (avInt (f (0 + ii) 3)) (avInt (f (0 + ii) 4)) (dWord (dOf x.R.D.n (wdF x.R.D.W)) (avInt (f (0 + ii) 2)) (avInt (f (0 + ii) 3)) (avInt (f (0 + ii) 4))) (dWord (dPut (dOf x.R.D.n (wdF x.R.D.W)) (avInt (f (0 + ii) 2)) (avInt (f (0 + ii) 3)) (avInt (f (0 + ii) 4)) (avInt (f (0 + ii) 5))) (avInt (f (0 + ii) 2)) (avInt (f (0 + ii) 3)) (avInt (f (0 + ii) 4))) false)),
 x.R.D.n ≤ x.R.D.n,
 x.R.D.n ≤ 100000,
 0 ≤ avInt (f (0 + ii) 2),
 ((avInt (f (0 + ii) 0)).tmod 5 == 1) = true,
 ((avInt (f (0 + ii) 0)).tmod 5 == 0) = false,
 (0 + ii).blt m = true,
 (ii.blt m && decide (0 ≤ Int.ofNat ii)) = true,
 decide (Int.ofNat ii < Int.ofNat m) = true]) := by kernel_rfl
theorem sg4_1 (m : Nat) (f : Nat → Nat → AV) (ii : Nat) (x : ST) : roundB EPg 3000 sgL (B.h0F sgF (sgU m f)) [(8, Src.nm 8), (9, Src.nm 9), (10, Src.nm 10)] (B.locSt sgF (sgT m f ii x) false (sMb (x.O x.n)) x.n []) [Hint.b true, Hint.b false, Hint.b false, Hint.b true] (B.locSt sgF (sgT m f (ii + 1) x) false (sMb (x.O x.n)) x.n []) =
 some (Ex.norm, [(0 : Nat) = 0,
 m = m,
 (none : Option Nat) = none,
 (0 : Nat) = 0,
 (0 : Nat) = 0,
 (0 : Nat) = 0,
 x.n = x.n,
 (none : Option Nat) = none,
 (0 : Nat) = 0,
 x.n = x.n,
 (none : Option Nat) = none,
 IntKind.i64.wrap (Int.ofNat ii + 1) = Int.ofNat (ii + 1),
 false = false,
 (sgT m f (ii + 1) x).n ≤ (sgT m f ii x).n,
 ∀ (i : Nat), i < (sgT m f (ii + 1) x).n → rowV (CM.mk 8 6703903964971298549787012499102923063739682910296196688861780721860882015036773488400937149083451713845015929093243025426876941405973284973216824503042048 [(8, Src.nm 8), (9, Src.nm 9), (10, Src.nm 10)]) sgF.sh 0 (lrow 6703903964971298549787012499102923063739682910296196688861780721860882015036773488400937149083451713845015929093243025426876941405973284973216824503042048 2 (sgT m f ii x).M x.n i) (lrow 6703903964971298549787012499102923063739682910296196688861780721860882015036773488400937149083451713845015929093243025426876941405973284973216824503042048 2 (sgT m f (ii + 1) x).M x.n i),
 false = false,
 (sgT m f (ii + 1) x).n ≤ (sgT m f ii x).n,
 ∀ (i : Nat), i < (sgT m f (ii + 1) x).n → rowV (CM.mk 8 6703903964971298549787012499102923063739682910296196688861780721860882015036773488400937149083451713845015929093243025426876941405973284973216824503042048 [(8, Src.nm 8), (9, Src.nm 9), (10, Src.nm 10)]) sgF.sh2 0 (fun c => lrow 6703903964971298549787012499102923063739682910296196688861780721860882015036773488400937149083451713845015929093243025426876941405973284973216824503042048 2 (sgT m f ii x).M x.n i (c + 1)) fun c => lrow 6703903964971298549787012499102923063739682910296196688861780721860882015036773488400937149083451713845015929093243025426876941405973284973216824503042048 2 (sgT m f (ii + 1) x).M x.n i (c + 1),
 (0 : Nat) = 0,
 (0 : Nat) = 0,
 (0 : Nat) = 0,
 (0 : Nat) = 0,
 true = true,
 m ≤ m,
 f = f ∧ plainSh asSh = true ∨ ∀ (i : Nat), i < m → rowOb asSh 0 (f i) (f i),
 x.S.st = x.S.st,
 x.S.L.c = x.S.L.c,
 x.S.L.k = x.S.L.k,
 x.S.L.a = x.S.L.a,
 x.S.L.f = x.S.L.f,
 x.S.L.w = x.S.L.w,
 x.S.L.i = x.S.L.i,
 x.S.L.d = x.S.L.d,
 ∀ (k : List Int), x.S.M k = x.S.M k,
 (0 : Nat) = 0,
 x.R.D.n = x.R.D.n,
 (none : Option Nat) = none,
 x.R.st = x.R.st,
 x.R.L.c = x.R.L.c,
 x.R.L.k = x.R.L.k,
 x.R.L.a = x.R.L.a,
 x.R.L.f = x.R.L.f,
 x.R.L.w = x.R.L.w,
 x.R.L.i = x.R.L.i,
 x.R.L.d = x.R.L.d,
 false = false,
 x.R.D.n ≤ x.R.D.n,
 wdF x.R.D.W = wdF x.R.D.W ∧ plainSh wSh = true ∨ ∀ (i : Nat), i < x.R.D.n → rowOb wSh 0 (wdF x.R.D.W i) (wdF x.R.D.W i),
 (Int.ofNat x.n == 0) = true,
 ((avInt (f (0 + ii) 0)).tmod 5 == 1) = false,
 ((avInt (f (0 + ii) 0)).tmod 5 == 0) = false,
 (0 + ii).blt m = true,
 (ii.blt m && decide (0 ≤ Int.ofNat ii)) = true,
 decide (Int.ofNat ii < Int.ofNat m) = true]) := by kernel_rfl
theorem sg5_1 (m : Nat) (f : Nat → Nat → AV) (ii : Nat) (x : ST) (j : Nat) (th e : Int) : roundB EPg 3000 sgL (B.h0F sgF (sgU m f)) [(8, Src.nm 8), (9, Src.nm 9), (10, Src.nm 10), (900, Src.nm 900), (901, Src.nm 901)] (B.locSt sgF (sgT m f ii x) true (sMb (SO.mk 0 th e)) j []) [Hint.b true, Hint.b false, Hint.b false, Hint.b false, Hint.node [(3, [Hint.a (AV.ptr 901 0 0)])], Hint.a (AV.ptr 901 0 0), Hint.node [(3, [Hint.a (AV.ptr 900 0 0)]), (9, [Hint.b false]), (13, [Hint.a (AV.ptr 900 0 0)])], Hint.b false] (B.locSt sgF (sgT m f (ii + 1) (stDo x j (SO.mk 0 th e))) true (sMb (soO x.S (SO.mk 0 th e))) j []) =
 some (Ex.norm, [(0 : Nat) = 0,
 m = m,
 (none : Option Nat) = none,
 (0 : Nat) = 0,
 (0 : Nat) = 0,
 (0 : Nat) = 0,
 x.n = (stDo x j (SO.mk 0 th e)).n,
 (none : Option Nat) = none,
 (0 : Nat) = 0,
 x.n = (stDo x j (SO.mk 0 th e)).n,
 (none : Option Nat) = none,
 IntKind.i64.wrap (Int.ofNat ii + 1) = Int.ofNat (ii + 1),
 (SO.mk 0 th e).th = (soO x.S (SO.mk 0 th e)).th,
 (SO.mk 0 th e).e = (soO x.S (SO.mk 0 th e)).e,
 (SO.mk 0 th e).th = (soO x.S (SO.mk 0 th e)).th,
 (SO.mk 0 th e).e = (soO x.S (SO.mk 0 th e)).e,
 false = false,
 (sgT m f (ii + 1) (stDo x j (SO.mk 0 th e))).n ≤ (sgT m f ii x).n,
 ∀ (i : Nat), i < (sgT m f (ii + 1) (stDo x j (SO.mk 0 th e))).n → rowV (CM.mk 8 6703903964971298549787012499102923063739682910296196688861780721860882015036773488400937149083451713845015929093243025426876941405973284973216824503042048 [(8, Src.nm 8), (9, Src.nm 9), (10, Src.nm 10), (900, Src.nm 900), (901, Src.nm 901)]) sgF.sh 0 (lrow 6703903964971298549787012499102923063739682910296196688861780721860882015036773488400937149083451713845015929093243025426876941405973284973216824503042048 2 (sgT m f ii x).M j i) (lrow 6703903964971298549787012499102923063739682910296196688861780721860882015036773488400937149083451713845015929093243025426876941405973284973216824503042048 2 (sgT m f (ii + 1) (stDo x j (SO.mk 0 th e))).M j i),
 false = false,
 (sgT m f (ii + 1) (stDo x j (SO.mk 0 th e))).n ≤ (sgT m f ii x).n,
 ∀ (i : Nat), i < (sgT m f (ii + 1) (stDo x j (SO.mk 0 th e))).n → rowV (CM.mk 8 6703903964971298549787012499102923063739682910296196688861780721860882015036773488400937149083451713845015929093243025426876941405973284973216824503042048 [(8, Src.nm 8), (9, Src.nm 9), (10, Src.nm 10), (900, Src.nm 900), (901, Src.nm 901)]) sgF.sh2 0 (fun c => lrow 6703903964971298549787012499102923063739682910296196688861780721860882015036773488400937149083451713845015929093243025426876941405973284973216824503042048 2 (sgT m f ii x).M j i (c + 1)) fun c => lrow 6703903964971298549787012499102923063739682910296196688861780721860882015036773488400937149083451713845015929093243025426876941405973284973216824503042048 2 (sgT m f (ii + 1) (stDo x j (SO.mk 0 th e))).M j i (c + 1),
 (0 : Nat) = 0,
 (0 : Nat) = 0,
 (0 : Nat) = 0,
 (0 : Nat) = 0,
 true = true,
 m ≤ m,
 f = f ∧ plainSh asSh = true ∨ ∀ (i : Nat), i < m → rowOb asSh 0 (f i) (f i),
 x.S.st = (stDo x j (SO.mk 0 th e)).S.st,
 x.S.L.c = (stDo x j (SO.mk 0 th e)).S.L.c,
 x.S.L.k = (stDo x j (SO.mk 0 th e)).S.L.k,
 x.S.L.a = (stDo x j (SO.mk 0 th e)).S.L.a,
 x.S.L.f = (stDo x j (SO.mk 0 th e)).S.L.f,
 x.S.L.w = (stDo x j (SO.mk 0 th e)).S.L.w,
 x.S.L.i = (stDo x j (SO.mk 0 th e)).S.L.i,
 x.S.L.d = (stDo x j (SO.mk 0 th e)).S.L.d,
 ∀ (k : List Int), x.S.M k = (stDo x j (SO.mk 0 th e)).S.M k,
 (0 : Nat) = 0,
 x.R.D.n = (stDo x j (SO.mk 0 th e)).R.D.n,
 (none : Option Nat) = none,
 x.R.st = (stDo x j (SO.mk 0 th e)).R.st,
 x.R.L.c = (stDo x j (SO.mk 0 th e)).R.L.c,
 x.R.L.k = (stDo x j (SO.mk 0 th e)).R.L.k,
 x.R.L.a = (stDo x j (SO.mk 0 th e)).R.L.a,
 x.R.L.f = (stDo x j (SO.mk 0 th e)).R.L.f,
 x.R.L.w = (stDo x j (SO.mk 0 th e)).R.L.w,
 x.R.L.i = (stDo x j (SO.mk 0 th e)).R.L.i,
 x.R.L.d = (stDo x j (SO.mk 0 th e)).R.L.d,
 false = false,
 (stDo x j (SO.mk 0 th e)).R.D.n ≤ x.R.D.n,
 wdF (stDo x j (SO.mk 0 th e)).R.D.W = wdF x.R.D.W ∧ plainSh wSh = true ∨ ∀ (i : Nat), i < (stDo x j (SO.mk 0 th e)).R.D.n → rowOb wSh 0 (wdF x.R.D.W i) (wdF (stDo x j (SO.mk 0 th e)).R.D.W i),
 Both x.S x.R,
 lrow 6703903964971298549787012499102923063739682910296196688861780721860882015036773488400937149083451713845015929093243025426876941405973284973216824503042048 2 (sgT m f ii x).M j (0 + ((IntKind.u64.wrap (avInt (f (0 + ii) 1))).tmod (IntKind.u64.wrap (Int.ofNat x.n))).toNat) 0 = AV.ptr 900 0 0,
 (0 + ((IntKind.u64.wrap (avInt (f (0 + ii) 1))).tmod (IntKind.u64.wrap (Int.ofNat x.n))).toNat).blt (sgT m f ii x).n = true,
 (((IntKind.u64.wrap (avInt (f (0 + ii) 1))).tmod (IntKind.u64.wrap (Int.ofNat x.n))).toNat.blt x.n && decide (0 ≤ (IntKind.u64.wrap (avInt (f (0 + ii) 1))).tmod (IntKind.u64.wrap (Int.ofNat x.n)))) = true,
 lrow 6703903964971298549787012499102923063739682910296196688861780721860882015036773488400937149083451713845015929093243025426876941405973284973216824503042048 2 (sgT m f ii x).M j (0 + ((IntKind.u64.wrap (avInt (f (0 + ii) 1))).tmod (IntKind.u64.wrap (Int.ofNat x.n))).toNat) 0 = AV.ptr 900 0 0,
 (0 + ((IntKind.u64.wrap (avInt (f (0 + ii) 1))).tmod (IntKind.u64.wrap (Int.ofNat x.n))).toNat).blt (sgT m f ii x).n = true,
 (((IntKind.u64.wrap (avInt (f (0 + ii) 1))).tmod (IntKind.u64.wrap (Int.ofNat x.n))).toNat.blt x.n && decide (0 ≤ (IntKind.u64.wrap (avInt (f (0 + ii) 1))).tmod (IntKind.u64.wrap (Int.ofNat x.n)))) = true,
 lrow 6703903964971298549787012499102923063739682910296196688861780721860882015036773488400937149083451713845015929093243025426876941405973284973216824503042048 2 (sgT m f ii x).M j (0 + ((IntKind.u64.wrap (avInt (f (0 + ii) 1))).tmod (IntKind.u64.wrap (Int.ofNat x.n))).toNat) 1 = AV.ptr 901 0 0,
 (0 + ((IntKind.u64.wrap (avInt (f (0 + ii) 1))).tmod (IntKind.u64.wrap (Int.ofNat x.n))).toNat).blt (sgT m f ii x).n = true,
 (((IntKind.u64.wrap (avInt (f (0 + ii) 1))).tmod (IntKind.u64.wrap (Int.ofNat x.n))).toNat.blt x.n && decide (0 ≤ (IntKind.u64.wrap (avInt (f (0 + ii) 1))).tmod (IntKind.u64.wrap (Int.ofNat x.n)))) = true,
 lrow 6703903964971298549787012499102923063739682910296196688861780721860882015036773488400937149083451713845015929093243025426876941405973284973216824503042048 2 (sgT m f ii x).M j (0 + ((IntKind.u64.wrap (avInt (f (0 + ii) 1))).tmod (IntKind.u64.wrap (Int.ofNat x.n))).toNat) 1 = AV.ptr 901 0 0,
 (0 + ((IntKind.u64.wrap (avInt (f (0 + ii) 1))).tmod (IntKind.u64.wrap (Int.ofNat x.n))).toNat).blt (sgT m f ii x).n = true,
 (((IntKind.u64.wrap (avInt (f (0 + ii) 1))).tmod (IntKind.u64.wrap (Int.ofNat x.n))).toNat.blt x.n && decide (0 ≤ (IntKind.u64.wrap (avInt (f (0 + ii) 1))).tmod (IntKind.u64.wrap (Int.ofNat x.n)))) = true,
 decide (IntKind.u64.wrap (Int.ofNat x.n) ≠ 0) = true,
 (Int.ofNat x.n == 0) = false,
 ((avInt (f (0 + ii) 0)).tmod 5 == 1) = false,
 ((avInt (f (0 + ii) 0)).tmod 5 == 0) = false,
 (0 + ii).blt m = true,
 (ii.blt m && decide (0 ≤ Int.ofNat ii)) = true,
 decide (Int.ofNat ii < Int.ofNat m) = true]) := by kernel_rfl
theorem sg6_1 (m : Nat) (f : Nat → Nat → AV) (ii : Nat) (x : ST) (j : Nat) (th e : Int) : roundB EPg 3000 sgL (B.h0F sgF (sgU m f)) [(8, Src.nm 8), (9, Src.nm 9), (10, Src.nm 613760738980526600627473068155174841040620383633074648028117131518025086825876479040613142311107029465791253273917513314228235602353511197499098924005), (900, Src.nm 900), (901, Src.nm 901)] (B.locSt sgF (sgT m f ii x) true (sMb (SO.mk 1 th e)) j []) [Hint.b true, Hint.b false, Hint.b false, Hint.b false, Hint.node [(3, [Hint.a (AV.ptr 901 0 0)])], Hint.a (AV.ptr 901 0 0), Hint.node [(3, [Hint.a (AV.ptr 900 0 0)]), (9, [Hint.b false]), (13, [Hint.a (AV.ptr 900 0 0)])], Hint.b false] (B.locSt sgF (sgT m f (ii + 1) (stDo x j (SO.mk 1 th e))) true (sMb (soO x.S (SO.mk 1 th e))) j []) =
 some (Ex.norm, [(0 : Nat) = 0,
 m = m,
 (none : Option Nat) = none,
 (0 : Nat) = 0,
 (0 : Nat) = 0,
 (0 : Nat) = 0,
 x.n = (stDo x j (SO.mk 1 th e)).n,
 (none : Option Nat) = none,
 (0 : Nat) = 0,
 x.n = (stDo x j (SO.mk 1 th e)).n,
 (none : Option Nat) = none,
 IntKind.i64.wrap (Int.ofNat ii + 1) = Int.ofNat (ii + 1),
 (SO.mk 1 th e).th = (soO x.S (SO.mk 1 th e)).th,
 (SO.mk 1 th e).e = (soO x.S (SO.mk 1 th e)).e,
 (SO.mk 1 th e).th = (soO x.S (SO.mk 1 th e)).th,
 (SO.mk 1 th e).e = (soO x.S (SO.mk 1 th e)).e,
 false = false,
 (sgT m f (ii + 1) (stDo x j (SO.mk 1 th e))).n ≤ (sgT m f ii x).n,
 ∀ (i : Nat), i < (sgT m f (ii + 1) (stDo x j (SO.mk 1 th e))).n → rowV (CM.mk 8 6703903964971298549787012499102923063739682910296196688861780721860882015036773488400937149083451713845015929093243025426876941405973284973216824503042048 [(8, Src.nm 8), (9, Src.nm 9), (10, Src.nm 613760738980526600627473068155174841040620383633074648028117131518025086825876479040613142311107029465791253273917513314228235602353511197499098924005), (900, Src.nm 900), (901, Src.nm 901)]) sgF.sh 0 (lrow 6703903964971298549787012499102923063739682910296196688861780721860882015036773488400937149083451713845015929093243025426876941405973284973216824503042048 2 (sgT m f ii x).M j i) (lrow 6703903964971298549787012499102923063739682910296196688861780721860882015036773488400937149083451713845015929093243025426876941405973284973216824503042048 2 (sgT m f (ii + 1) (stDo x j (SO.mk 1 th e))).M j i),
 false = false,
 (sgT m f (ii + 1) (stDo x j (SO.mk 1 th e))).n ≤ (sgT m f ii x).n,
 ∀ (i : Nat), i < (sgT m f (ii + 1) (stDo x j (SO.mk 1 th e))).n → rowV (CM.mk 8 6703903964971298549787012499102923063739682910296196688861780721860882015036773488400937149083451713845015929093243025426876941405973284973216824503042048 [(8, Src.nm 8), (9, Src.nm 9), (10, Src.nm 613760738980526600627473068155174841040620383633074648028117131518025086825876479040613142311107029465791253273917513314228235602353511197499098924005), (900, Src.nm 900), (901, Src.nm 901)]) sgF.sh2 0 (fun c => lrow 6703903964971298549787012499102923063739682910296196688861780721860882015036773488400937149083451713845015929093243025426876941405973284973216824503042048 2 (sgT m f ii x).M j i (c + 1)) fun c => lrow 6703903964971298549787012499102923063739682910296196688861780721860882015036773488400937149083451713845015929093243025426876941405973284973216824503042048 2 (sgT m f (ii + 1) (stDo x j (SO.mk 1 th e))).M j i (c + 1),
 (0 : Nat) = 0,
 (0 : Nat) = 0,
 (0 : Nat) = 0,
 (0 : Nat) = 0,
 true = true,
 m ≤ m,
 f = f ∧ plainSh asSh = true ∨ ∀ (i : Nat), i < m → rowOb asSh 0 (f i) (f i),
 (MS.mk (memPut x.S.M 8 (SO.mk 1 th e).th 6 18446744073709551615) (IntKind.i64.wrap (x.S.st + 1)) (LS.mk 2 8 (SO.mk 1 th e).th 6 (mget x.S.M (key 8 (SO.mk 1 th e).th 6)) (memIs x.S.M 8 (SO.mk 1 th e).th 6 18446744073709551615) false)).st = (stDo x j (SO.mk 1 th e)).S.st,
 (2 : Int) = 2,
 (8 : Int) = 8,
 (MS.mk (memPut x.S.M 8 (SO.mk 1 th e).th 6 18446744073709551615) (IntKind.i64.wrap (x.S.st + 1)) (LS.mk 2 8 (SO.mk 1 th e).th 6 (mget x.S.M (key 8 (SO.mk 1 th e).th 6)) (memIs x.S.M 8 (SO.mk 1 th e).th 6 18446744073709551615) false)).L.a = (stDo x j (SO.mk 1 th e)).S.L.a,
 (6 : Int) = 6,
 (MS.mk (memPut x.S.M 8 (SO.mk 1 th e).th 6 18446744073709551615) (IntKind.i64.wrap (x.S.st + 1)) (LS.mk 2 8 (SO.mk 1 th e).th 6 (mget x.S.M (key 8 (SO.mk 1 th e).th 6)) (memIs x.S.M 8 (SO.mk 1 th e).th 6 18446744073709551615) false)).L.w = (stDo x j (SO.mk 1 th e)).S.L.w,
 (MS.mk (memPut x.S.M 8 (SO.mk 1 th e).th 6 18446744073709551615) (IntKind.i64.wrap (x.S.st + 1)) (LS.mk 2 8 (SO.mk 1 th e).th 6 (mget x.S.M (key 8 (SO.mk 1 th e).th 6)) (memIs x.S.M 8 (SO.mk 1 th e).th 6 18446744073709551615) false)).L.i = (stDo x j (SO.mk 1 th e)).S.L.i,
 (MS.mk (memPut x.S.M 8 (SO.mk 1 th e).th 6 18446744073709551615) (IntKind.i64.wrap (x.S.st + 1)) (LS.mk 2 8 (SO.mk 1 th e).th 6 (mget x.S.M (key 8 (SO.mk 1 th e).th 6)) (memIs x.S.M 8 (SO.mk 1 th e).th 6 18446744073709551615) false)).L.d = (stDo x j (SO.mk 1 th e)).S.L.d,
 ∀ (k : List Int), (MS.mk (memPut x.S.M 8 (SO.mk 1 th e).th 6 18446744073709551615) (IntKind.i64.wrap (x.S.st + 1)) (LS.mk 2 8 (SO.mk 1 th e).th 6 (mget x.S.M (key 8 (SO.mk 1 th e).th 6)) (memIs x.S.M 8 (SO.mk 1 th e).th 6 18446744073709551615) false)).M k = (stDo x j (SO.mk 1 th e)).S.M k,
 (0 : Nat) = 0,
 (dPut (dOf x.R.D.n (wdF x.R.D.W)) 8 (SO.mk 1 th e).th 6 18446744073709551615).n = (stDo x j (SO.mk 1 th e)).R.D.n,
 (none : Option Nat) = none,
 IntKind.i64.wrap (x.R.st + 1) = (stDo x j (SO.mk 1 th e)).R.st,
 (2 : Int) = 2,
 (8 : Int) = 8,
 (LS.mk 2 8 (SO.mk 1 th e).th 6 (dWord (dOf x.R.D.n (wdF x.R.D.W)) 8 (SO.mk 1 th e).th 6) (dWord (dPut (dOf x.R.D.n (wdF x.R.D.W)) 8 (SO.mk 1 th e).th 6 18446744073709551615) 8 (SO.mk 1 th e).th 6) false).a = (stDo x j (SO.mk 1 th e)).R.L.a,
 (6 : Int) = 6,
 (LS.mk 2 8 (SO.mk 1 th e).th 6 (dWord (dOf x.R.D.n (wdF x.R.D.W)) 8 (SO.mk 1 th e).th 6) (dWord (dPut (dOf x.R.D.n (wdF x.R.D.W)) 8 (SO.mk 1 th e).th 6 18446744073709551615) 8 (SO.mk 1 th e).th 6) false).w = (stDo x j (SO.mk 1 th e)).R.L.w,
 (LS.mk 2 8 (SO.mk 1 th e).th 6 (dWord (dOf x.R.D.n (wdF x.R.D.W)) 8 (SO.mk 1 th e).th 6) (dWord (dPut (dOf x.R.D.n (wdF x.R.D.W)) 8 (SO.mk 1 th e).th 6 18446744073709551615) 8 (SO.mk 1 th e).th 6) false).i = (stDo x j (SO.mk 1 th e)).R.L.i,
 (LS.mk 2 8 (SO.mk 1 th e).th 6 (dWord (dOf x.R.D.n (wdF x.R.D.W)) 8 (SO.mk 1 th e).th 6) (dWord (dPut (dOf x.R.D.n (wdF x.R.D.W)) 8 (SO.mk 1 th e).th 6 18446744073709551615) 8 (SO.mk 1 th e).th 6) false).d = (stDo x j (SO.mk 1 th e)).R.L.d,
 false = false,
 (stDo x j (SO.mk 1 th e)).R.D.n ≤ (dPut (dOf x.R.D.n (wdF x.R.D.W)) 8 (SO.mk 1 th e).th 6 18446744073709551615).n,
 wdF (stDo x j (SO.mk 1 th e)).R.D.W = wdF (dPut (dOf x.R.D.n (wdF x.R.D.W)) 8 (SO.mk 1 th e).th 6 18446744073709551615).W ∧ plainSh wSh = true ∨ ∀ (i : Nat), i < (stDo x j (SO.mk 1 th e)).R.D.n → rowOb wSh 0 (wdF (dPut (dOf x.R.D.n (wdF x.R.D.W)) 8 (SO.mk 1 th e).th 6 18446744073709551615).W i) (wdF (stDo x j (SO.mk 1 th e)).R.D.W i),
 Both (MS.mk (memPut x.S.M 8 (SO.mk 1 th e).th 6 18446744073709551615) (IntKind.i64.wrap (x.S.st + 1)) (LS.mk 2 8 (SO.mk 1 th e).th 6 (mget x.S.M (key 8 (SO.mk 1 th e).th 6)) (memIs x.S.M 8 (SO.mk 1 th e).th 6 18446744073709551615) false)) (mkR (dPut (dOf x.R.D.n (wdF x.R.D.W)) 8 (SO.mk 1 th e).th 6 18446744073709551615).n (wdF (dPut (dOf x.R.D.n (wdF x.R.D.W)) 8 (SO.mk 1 th e).th 6 18446744073709551615).W) (IntKind.i64.wrap (x.R.st + 1)) (LS.mk 2 8 (SO.mk 1 th e).th 6 (dWord (dOf x.R.D.n (wdF x.R.D.W)) 8 (SO.mk 1 th e).th 6) (dWord (dPut (dOf x.R.D.n (wdF x.R.D.W)) 8 (SO.mk 1 th e).th 6 18446744073709551615) 8 (SO.mk 1 th e).th 6) false)),
 lrow 6703903964971298549787012499102923063739682910296196688861780721860882015036773488400937149083451713845015929093243025426876941405973284973216824503042048 2 (sgT m f ii x).M j (0 + ((IntKind.u64.wrap (avInt (f (0 + ii) 1))).tmod (IntKind.u64.wrap (Int.ofNat x.n))).toNat) 0 = AV.ptr 900 0 0,
 (0 + ((IntKind.u64.wrap (avInt (f (0 + ii) 1))).tmod (IntKind.u64.wrap (Int.ofNat x.n))).toNat).blt (sgT m f ii x).n = true,
 (((IntKind.u64.wrap (avInt (f (0 + ii) 1))).tmod (IntKind.u64.wrap (Int.ofNat x.n))).toNat.blt x.n && decide (0 ≤ (IntKind.u64.wrap (avInt (f (0 + ii) 1))).tmod (IntKind.u64.wrap (Int.ofNat x.n)))) = true,
 (0 : Int) ≤ (8 : Int),
 lrow 6703903964971298549787012499102923063739682910296196688861780721860882015036773488400937149083451713845015929093243025426876941405973284973216824503042048 2 (sgT m f ii x).M j (0 + ((IntKind.u64.wrap (avInt (f (0 + ii) 1))).tmod (IntKind.u64.wrap (Int.ofNat x.n))).toNat) 0 = AV.ptr 900 0 0,
 (0 + ((IntKind.u64.wrap (avInt (f (0 + ii) 1))).tmod (IntKind.u64.wrap (Int.ofNat x.n))).toNat).blt (sgT m f ii x).n = true,
 (((IntKind.u64.wrap (avInt (f (0 + ii) 1))).tmod (IntKind.u64.wrap (Int.ofNat x.n))).toNat.blt x.n && decide (0 ≤ (IntKind.u64.wrap (avInt (f (0 + ii) 1))).tmod (IntKind.u64.wrap (Int.ofNat x.n)))) = true,
 lrow 6703903964971298549787012499102923063739682910296196688861780721860882015036773488400937149083451713845015929093243025426876941405973284973216824503042048 2 (sgT m f ii x).M j (0 + ((IntKind.u64.wrap (avInt (f (0 + ii) 1))).tmod (IntKind.u64.wrap (Int.ofNat x.n))).toNat) 1 = AV.ptr 901 0 0,
 (0 + ((IntKind.u64.wrap (avInt (f (0 + ii) 1))).tmod (IntKind.u64.wrap (Int.ofNat x.n))).toNat).blt (sgT m f ii x).n = true,
 (((IntKind.u64.wrap (avInt (f (0 + ii) 1))).tmod (IntKind.u64.wrap (Int.ofNat x.n))).toNat.blt x.n && decide (0 ≤ (IntKind.u64.wrap (avInt (f (0 + ii) 1))).tmod (IntKind.u64.wrap (Int.ofNat x.n)))) = true,
 x.R.D.n ≤ x.R.D.n,
 x.R.D.n ≤ 100000,
 (0 : Int) ≤ (8 : Int),
 lrow 6703903964971298549787012499102923063739682910296196688861780721860882015036773488400937149083451713845015929093243025426876941405973284973216824503042048 2 (sgT m f ii x).M j (0 + ((IntKind.u64.wrap (avInt (f (0 + ii) 1))).tmod (IntKind.u64.wrap (Int.ofNat x.n))).toNat) 1 = AV.ptr 901 0 0,
 (0 + ((IntKind.u64.wrap (avInt (f (0 + ii) 1))).tmod (IntKind.u64.wrap (Int.ofNat x.n))).toNat).blt (sgT m f ii x).n = true,
 (((IntKind.u64.wrap (avInt (f (0 + ii) 1))).tmod (IntKind.u64.wrap (Int.ofNat x.n))).toNat.blt x.n && decide (0 ≤ (IntKind.u64.wrap (avInt (f (0 + ii) 1))).tmod (IntKind.u64.wrap (Int.ofNat x.n)))) = true,
 decide (IntKind.u64.wrap (Int.ofNat x.n) ≠ 0) = true,
 (Int.ofNat x.n == 0) = false,
 ((avInt (f (0 + ii) 0)).tmod 5 == 1) = false,
 ((avInt (f (0 + ii) 0)).tmod 5 == 0) = false,
 (0 + ii).blt m = true,
 (ii.blt m && decide (0 ≤ Int.ofNat ii)) = true,
 decide (Int.ofNat ii < Int.ofNat m) = true]) := by kernel_rfl
theorem sg7_1 (m : Nat) (f : Nat → Nat → AV) (ii : Nat) (x : ST) (j : Nat) (th e : Int) : roundB EPg 3000 sgL (B.h0F sgF (sgU m f)) [(8, Src.nm 8), (9, Src.nm 9), (10, Src.nm 10), (900, Src.nm 900), (901, Src.nm 901)] (B.locSt sgF (sgT m f ii x) true (sMb (SO.mk 2 th e)) j []) [Hint.b true, Hint.b false, Hint.b false, Hint.b false, Hint.node [(3, [Hint.a (AV.ptr 901 0 0)])], Hint.a (AV.ptr 901 0 0), Hint.node [(3, [Hint.a (AV.ptr 900 0 0)]), (9, [Hint.b false]), (13, [Hint.a (AV.ptr 900 0 0)])], Hint.b false] (B.locSt sgF (sgT m f (ii + 1) (stDo x j (SO.mk 2 th e))) true (sMb (soO x.S (SO.mk 2 th e))) j []) =
 some (Ex.norm, [(0 : Nat) = 0,
 m = m,
 (none : Option Nat) = none,
 (0 : Nat) = 0,
 (0 : Nat) = 0,
 (0 : Nat) = 0,
 x.n = (stDo x j (SO.mk 2 th e)).n,
 (none : Option Nat) = none,
 (0 : Nat) = 0,
 x.n = (stDo x j (SO.mk 2 th e)).n,
 (none : Option Nat) = none,
 IntKind.i64.wrap (Int.ofNat ii + 1) = Int.ofNat (ii + 1),
 (SO.mk 2 th e).th = (soO x.S (SO.mk 2 th e)).th,
 mget x.S.M (key 2 0 0) = (soO x.S (SO.mk 2 th e)).e,
 (SO.mk 2 th e).th = (soO x.S (SO.mk 2 th e)).th,
 dWord (dOf x.R.D.n (wdF x.R.D.W)) 2 0 0 = (soO x.S (SO.mk 2 th e)).e,
 false = false,
 (sgT m f (ii + 1) (stDo x j (SO.mk 2 th e))).n ≤ (sgT m f ii x).n,
 ∀ (i : Nat), i < (sgT m f (ii + 1) (stDo x j (SO.mk 2 th e))).n → rowV (CM.mk 8 6703903964971298549787012499102923063739682910296196688861780721860882015036773488400937149083451713845015929093243025426876941405973284973216824503042048 [(8, Src.nm 8), (9, Src.nm 9), (10, Src.nm 10), (900, Src.nm 900), (901, Src.nm 901)]) sgF.sh 0 (lrow 6703903964971298549787012499102923063739682910296196688861780721860882015036773488400937149083451713845015929093243025426876941405973284973216824503042048 2 (sgT m f ii x).M j i) (lrow 6703903964971298549787012499102923063739682910296196688861780721860882015036773488400937149083451713845015929093243025426876941405973284973216824503042048 2 (sgT m f (ii + 1) (stDo x j (SO.mk 2 th e))).M j i),
 false = false,
 (sgT m f (ii + 1) (stDo x j (SO.mk 2 th e))).n ≤ (sgT m f ii x).n,
 ∀ (i : Nat), i < (sgT m f (ii + 1) (stDo x j (SO.mk 2 th e))).n → rowV (CM.mk 8 6703903964971298549787012499102923063739682910296196688861780721860882015036773488400937149083451713845015929093243025426876941405973284973216824503042048 [(8, Src.nm 8), (9, Src.nm 9), (10, Src.nm 10), (900, Src.nm 900), (901, Src.nm 901)]) sgF.sh2 0 (fun c => lrow 6703903964971298549787012499102923063739682910296196688861780721860882015036773488400937149083451713845015929093243025426876941405973284973216824503042048 2 (sgT m f ii x).M j i (c + 1)) fun c => lrow 6703903964971298549787012499102923063739682910296196688861780721860882015036773488400937149083451713845015929093243025426876941405973284973216824503042048 2 (sgT m f (ii + 1) (stDo x j (SO.mk 2 th e))).M j i (c + 1),
 (0 : Nat) = 0,
 (0 : Nat) = 0,
 (0 : Nat) = 0,
 (0 : Nat) = 0,
 true = true,
 m ≤ m,
 f = f ∧ plainSh asSh = true ∨ ∀ (i : Nat), i < m → rowOb asSh 0 (f i) (f i),
 (MS.mk x.S.M (IntKind.i64.wrap (x.S.st + 1)) (LS.mk 1 2 0 0 (mget x.S.M (key 2 0 0)) (mget x.S.M (key 2 0 0)) false)).st = (stDo x j (SO.mk 2 th e)).S.st,
 (1 : Int) = 1,
 (2 : Int) = 2,
 (0 : Int) = 0,
 (0 : Int) = 0,
 (MS.mk x.S.M (IntKind.i64.wrap (x.S.st + 1)) (LS.mk 1 2 0 0 (mget x.S.M (key 2 0 0)) (mget x.S.M (key 2 0 0)) false)).L.w = (stDo x j (SO.mk 2 th e)).S.L.w,
 (MS.mk x.S.M (IntKind.i64.wrap (x.S.st + 1)) (LS.mk 1 2 0 0 (mget x.S.M (key 2 0 0)) (mget x.S.M (key 2 0 0)) false)).L.i = (stDo x j (SO.mk 2 th e)).S.L.i,
 (MS.mk x.S.M (IntKind.i64.wrap (x.S.st + 1)) (LS.mk 1 2 0 0 (mget x.S.M (key 2 0 0)) (mget x.S.M (key 2 0 0)) false)).L.d = (stDo x j (SO.mk 2 th e)).S.L.d,
 ∀ (k : List Int), (MS.mk x.S.M (IntKind.i64.wrap (x.S.st + 1)) (LS.mk 1 2 0 0 (mget x.S.M (key 2 0 0)) (mget x.S.M (key 2 0 0)) false)).M k = (stDo x j (SO.mk 2 th e)).S.M k,
 (0 : Nat) = 0,
 x.R.D.n = (stDo x j (SO.mk 2 th e)).R.D.n,
 (none : Option Nat) = none,
 IntKind.i64.wrap (x.R.st + 1) = (stDo x j (SO.mk 2 th e)).R.st,
 (1 : Int) = 1,
 (2 : Int) = 2,
 (0 : Int) = 0,
 (0 : Int) = 0,
 (LS.mk 1 2 0 0 (dWord (dOf x.R.D.n (wdF x.R.D.W)) 2 0 0) (dWord (dOf x.R.D.n (wdF x.R.D.W)) 2 0 0) false).w = (stDo x j (SO.mk 2 th e)).R.L.w,
 (LS.mk 1 2 0 0 (dWord (dOf x.R.D.n (wdF x.R.D.W)) 2 0 0) (dWord (dOf x.R.D.n (wdF x.R.D.W)) 2 0 0) false).i = (stDo x j (SO.mk 2 th e)).R.L.i,
 (LS.mk 1 2 0 0 (dWord (dOf x.R.D.n (wdF x.R.D.W)) 2 0 0) (dWord (dOf x.R.D.n (wdF x.R.D.W)) 2 0 0) false).d = (stDo x j (SO.mk 2 th e)).R.L.d,
 false = false,
 (stDo x j (SO.mk 2 th e)).R.D.n ≤ x.R.D.n,
 wdF (stDo x j (SO.mk 2 th e)).R.D.W = wdF x.R.D.W ∧ plainSh wSh = true ∨ ∀ (i : Nat), i < (stDo x j (SO.mk 2 th e)).R.D.n → rowOb wSh 0 (wdF x.R.D.W i) (wdF (stDo x j (SO.mk 2 th e)).R.D.W i),
 Both (MS.mk x.S.M (IntKind.i64.wrap (x.S.st + 1)) (LS.mk 1 2 0 0 (mget x.S.M (key 2 0 0)) (mget x.S.M (key 2 0 0)) false)) (mkR x.R.D.n (wdF x.R.D.W) (IntKind.i64.wrap (x.R.st + 1)) (LS.mk 1 2 0 0 (dWord (dOf x.R.D.n (wdF x.R.D.W)) 2 0 0) (dWord (dOf x.R.D.n (wdF x.R.D.W)) 2 0 0) false)),
 lrow 6703903964971298549787012499102923063739682910296196688861780721860882015036773488400937149083451713845015929093243025426876941405973284973216824503042048 2 (sgT m f ii x).M j (0 + ((IntKind.u64.wrap (avInt (f (0 + ii) 1))).tmod (IntKind.u64.wrap (Int.ofNat x.n))).toNat) 0 = AV.ptr 900 0 0,
 (0 + ((IntKind.u64.wrap (avInt (f (0 + ii) 1))).tmod (IntKind.u64.wrap (Int.ofNat x.n))).toNat).blt (sgT m f ii x).n = true,
 (((IntKind.u64.wrap (avInt (f (0 + ii) 1))).tmod (IntKind.u64.wrap (Int.ofNat x.n))).toNat.blt x.n && decide (0 ≤ (IntKind.u64.wrap (avInt (f (0 + ii) 1))).tmod (IntKind.u64.wrap (Int.ofNat x.n)))) = true,
 lrow 6703903964971298549787012499102923063739682910296196688861780721860882015036773488400937149083451713845015929093243025426876941405973284973216824503042048 2 (sgT m f ii x).M j (0 + ((IntKind.u64.wrap (avInt (f (0 + ii) 1))).tmod (IntKind.u64.wrap (Int.ofNat x.n))).toNat) 0 = AV.ptr 900 0 0,
 (0 + ((IntKind.u64.wrap (avInt (f (0 + ii) 1))).tmod (IntKind.u64.wrap (Int.ofNat x.n))).toNat).blt (sgT m f ii x).n = true,
 (((IntKind.u64.wrap (avInt (f (0 + ii) 1))).tmod (IntKind.u64.wrap (Int.ofNat x.n))).toNat.blt x.n && decide (0 ≤ (IntKind.u64.wrap (avInt (f (0 + ii) 1))).tmod (IntKind.u64.wrap (Int.ofNat x.n)))) = true,
 lrow 6703903964971298549787012499102923063739682910296196688861780721860882015036773488400937149083451713845015929093243025426876941405973284973216824503042048 2 (sgT m f ii x).M j (0 + ((IntKind.u64.wrap (avInt (f (0 + ii) 1))).tmod (IntKind.u64.wrap (Int.ofNat x.n))).toNat) 1 = AV.ptr 901 0 0,
 (0 + ((IntKind.u64.wrap (avInt (f (0 + ii) 1))).tmod (IntKind.u64.wrap (Int.ofNat x.n))).toNat).blt (sgT m f ii x).n = true,
 (((IntKind.u64.wrap (avInt (f (0 + ii) 1))).tmod (IntKind.u64.wrap (Int.ofNat x.n))).toNat.blt x.n && decide (0 ≤ (IntKind.u64.wrap (avInt (f (0 + ii) 1))).tmod (IntKind.u64.wrap (Int.ofNat x.n)))) = true,
 x.R.D.n ≤ x.R.D.n,
 x.R.D.n ≤ 1000000,
 lrow 6703903964971298549787012499102923063739682910296196688861780721860882015036773488400937149083451713845015929093243025426876941405973284973216824503042048 2 (sgT m f ii x).M j (0 + ((IntKind.u64.wrap (avInt (f (0 + ii) 1))).tmod (IntKind.u64.wrap (Int.ofNat x.n))).toNat) 1 = AV.ptr 901 0 0,
 (0 + ((IntKind.u64.wrap (avInt (f (0 + ii) 1))).tmod (IntKind.u64.wrap (Int.ofNat x.n))).toNat).blt (sgT m f ii x).n = true,
 (((IntKind.u64.wrap (avInt (f (0 + ii) 1))).tmod (IntKind.u64.wrap (Int.ofNat x.n))).toNat.blt x.n && decide (0 ≤ (IntKind.u64.wrap (avInt (f (0 + ii) 1))).tmod (IntKind.u64.wrap (Int.ofNat x.n)))) = true,
 decide (IntKind.u64.wrap (Int.ofNat x.n) ≠ 0) = true,
 (Int.ofNat x.n == 0) = false,
 ((avInt (f (0 + ii) 0)).tmod 5 == 1) = false,
 ((avInt (f (0 + ii) 0)).tmod 5 == 0) = false,
 (0 + ii).blt m = true,
 (ii.blt m && decide (0 ≤ Int.ofNat ii)) = true,
 decide (Int.ofNat ii < Int.ofNat m) = true]) := by kernel_rfl
theorem sg8_1 (m : Nat) (f : Nat → Nat → AV) (ii : Nat) (x : ST) (j : Nat) (th e : Int) : roundB EPg 3000 sgL (B.h0F sgF (sgU m f)) [(8, Src.nm 8), (9, Src.nm 9), (10, Src.nm 613771665100452706600282903745479117122690503726573975427145138567383775626962348220283563382467751687690312668176438237408369670268388706497670939614), (900, Src.nm 900), (901, Src.nm 901)] (B.locSt sgF (sgT m f ii x) true (sMb (SO.mk 3 th e)) j []) [Hint.b true, Hint.b false, Hint.b false, Hint.b false, Hint.node [(3, [Hint.a (AV.ptr 901 0 0)])], Hint.a (AV.ptr 901 0 0), Hint.node [(3, [Hint.a (AV.ptr 900 0 0)]), (9, [Hint.b false]), (13, [Hint.a (AV.ptr 900 0 0)])], Hint.b false] (B.locSt sgF (sgT m f (ii + 1) (stDo x j (SO.mk 3 th e))) true (sMb (soO x.S (SO.mk 3 th e))) j []) =
 some (Ex.norm, [(0 : Nat) = 0,
 m = m,
 (none : Option Nat) = none,
 (0 : Nat) = 0,
 (0 : Nat) = 0,
 (0 : Nat) = 0,
 x.n = (stDo x j (SO.mk 3 th e)).n,
 (none : Option Nat) = none,
 (0 : Nat) = 0,
 x.n = (stDo x j (SO.mk 3 th e)).n,
 (none : Option Nat) = none,
 IntKind.i64.wrap (Int.ofNat ii + 1) = Int.ofNat (ii + 1),
 (SO.mk 3 th e).th = (soO x.S (SO.mk 3 th e)).th,
 (SO.mk 3 th e).e = (soO x.S (SO.mk 3 th e)).e,
 (SO.mk 3 th e).th = (soO x.S (SO.mk 3 th e)).th,
 (SO.mk 3 th e).e = (soO x.S (SO.mk 3 th e)).e,
 false = false,
 (sgT m f (ii + 1) (stDo x j (SO.mk 3 th e))).n ≤ (sgT m f ii x).n,
 ∀ (i : Nat), i < (sgT m f (ii + 1) (stDo x j (SO.mk 3 th e))).n → rowV (CM.mk 8 6703903964971298549787012499102923063739682910296196688861780721860882015036773488400937149083451713845015929093243025426876941405973284973216824503042048 [(8, Src.nm 8), (9, Src.nm 9), (10, Src.nm 613771665100452706600282903745479117122690503726573975427145138567383775626962348220283563382467751687690312668176438237408369670268388706497670939614), (900, Src.nm 900), (901, Src.nm 901)]) sgF.sh 0 (lrow 6703903964971298549787012499102923063739682910296196688861780721860882015036773488400937149083451713845015929093243025426876941405973284973216824503042048 2 (sgT m f ii x).M j i) (lrow 6703903964971298549787012499102923063739682910296196688861780721860882015036773488400937149083451713845015929093243025426876941405973284973216824503042048 2 (sgT m f (ii + 1) (stDo x j (SO.mk 3 th e))).M j i),
 false = false,
 (sgT m f (ii + 1) (stDo x j (SO.mk 3 th e))).n ≤ (sgT m f ii x).n,
 ∀ (i : Nat), i < (sgT m f (ii + 1) (stDo x j (SO.mk 3 th e))).n → rowV (CM.mk 8 6703903964971298549787012499102923063739682910296196688861780721860882015036773488400937149083451713845015929093243025426876941405973284973216824503042048 [(8, Src.nm 8), (9, Src.nm 9), (10, Src.nm 613771665100452706600282903745479117122690503726573975427145138567383775626962348220283563382467751687690312668176438237408369670268388706497670939614), (900, Src.nm 900), (901, Src.nm 901)]) sgF.sh2 0 (fun c => lrow 6703903964971298549787012499102923063739682910296196688861780721860882015036773488400937149083451713845015929093243025426876941405973284973216824503042048 2 (sgT m f ii x).M j i (c + 1)) fun c => lrow 6703903964971298549787012499102923063739682910296196688861780721860882015036773488400937149083451713845015929093243025426876941405973284973216824503042048 2 (sgT m f (ii + 1) (stDo x j (SO.mk 3 th e))).M j i (c + 1),
 (0 : Nat) = 0,
 (0 : Nat) = 0,
 (0 : Nat) = 0,
 (0 : Nat) = 0,
 true = true,
 m ≤ m,
 f = f ∧ plainSh asSh = true ∨ ∀ (i : Nat), i < m → rowOb asSh 0 (f i) (f i),
 (MS.mk (memPut x.S.M 8 (SO.mk 3 th e).th 6 (IntKind.u64.wrap ((SO.mk 3 th e).e + 1))) (IntKind.i64.wrap (x.S.st + 1)) (LS.mk 2 8 (SO.mk 3 th e).th 6 (mget x.S.M (key 8 (SO.mk 3 th e).th 6)) (memIs x.S.M 8 (SO.mk 3 th e).th 6 (IntKind.u64.wrap ((SO.mk 3 th e).e + 1))) false)).st = (stDo x j (SO.mk 3 th e)).S.st,
 (2 : Int) = 2,
 (8 : Int) = 8,
 (MS.mk (memPut x.S.M 8 (SO.mk 3 th e).th 6 (IntKind.u64.wrap ((SO.mk 3 th e).e + 1))) (IntKind.i64.wrap (x.S.st + 1)) (LS.mk 2 8 (SO.mk 3 th e).th 6 (mget x.S.M (key 8 (SO.mk 3 th e).th 6)) (memIs x.S.M 8 (SO.mk 3 th e).th 6 (IntKind.u64.wrap ((SO.mk 3 th e).e + 1))) false)).L.a = (stDo x j (SO.mk 3 th e)).S.L.a,
 (6 : Int) = 6,
 (MS.mk (memPut x.S.M 8 (SO.mk 3 th e).th 6 (IntKind.u64.wrap ((SO.mk 3 th e).e + 1))) (IntKind.i64.wrap (x.S.st + 1)) (LS.mk 2 8 (SO.mk 3 th e).th 6 (mget x.S.M (key 8 (SO.mk 3 th e).th 6)) (memIs x.S.M 8 (SO.mk 3 th e).th 6 (IntKind.u64.wrap ((SO.mk 3 th e).e + 1))) false)).L.w = (stDo x j (SO.mk 3 th e)).S.L.w,
 (MS.mk (memPut x.S.M 8 (SO.mk 3 th e).th 6 (IntKind.u64.wrap ((SO.mk 3 th e).e + 1))) (IntKind.i64.wrap (x.S.st + 1)) (LS.mk 2 8 (SO.mk 3 th e).th 6 (mget x.S.M (key 8 (SO.mk 3 th e).th 6)) (memIs x.S.M 8 (SO.mk 3 th e).th 6 (IntKind.u64.wrap ((SO.mk 3 th e).e + 1))) false)).L.i = (stDo x j (SO.mk 3 th e)).S.L.i,
 (MS.mk (memPut x.S.M 8 (SO.mk 3 th e).th 6 (IntKind.u64.wrap ((SO.mk 3 th e).e + 1))) (IntKind.i64.wrap (x.S.st + 1)) (LS.mk 2 8 (SO.mk 3 th e).th 6 (mget x.S.M (key 8 (SO.mk 3 th e).th 6)) (memIs x.S.M 8 (SO.mk 3 th e).th 6 (IntKind.u64.wrap ((SO.mk 3 th e).e + 1))) false)).L.d = (stDo x j (SO.mk 3 th e)).S.L.d,
 ∀ (k : List Int), (MS.mk (memPut x.S.M 8 (SO.mk 3 th e).th 6 (IntKind.u64.wrap ((SO.mk 3 th e).e + 1))) (IntKind.i64.wrap (x.S.st + 1)) (LS.mk 2 8 (SO.mk 3 th e).th 6 (mget x.S.M (key 8 (SO.mk 3 th e).th 6)) (memIs x.S.M 8 (SO.mk 3 th e).th 6 (IntKind.u64.wrap ((SO.mk 3 th e).e + 1))) false)).M k = (stDo x j (SO.mk 3 th e)).S.M k,
 (0 : Nat) = 0,
 (dPut (dOf x.R.D.n (wdF x.R.D.W)) 8 (SO.mk 3 th e).th 6 (IntKind.u64.wrap ((SO.mk 3 th e).e + 1))).n = (stDo x j (SO.mk 3 th e)).R.D.n,
 (none : Option Nat) = none,
 IntKind.i64.wrap (x.R.st + 1) = (stDo x j (SO.mk 3 th e)).R.st,
 (2 : Int) = 2,
 (8 : Int) = 8,
 (LS.mk 2 8 (SO.mk 3 th e).th 6 (dWord (dOf x.R.D.n (wdF x.R.D.W)) 8 (SO.mk 3 th e).th 6) (dWord (dPut (dOf x.R.D.n (wdF x.R.D.W)) 8 (SO.mk 3 th e).th 6 (IntKind.u64.wrap ((SO.mk 3 th e).e + 1))) 8 (SO.mk 3 th e).th 6) false).a = (stDo x j (SO.mk 3 th e)).R.L.a,
 (6 : Int) = 6,
 (LS.mk 2 8 (SO.mk 3 th e).th 6 (dWord (dOf x.R.D.n (wdF x.R.D.W)) 8 (SO.mk 3 th e).th 6) (dWord (dPut (dOf x.R.D.n (wdF x.R.D.W)) 8 (SO.mk 3 th e).th 6 (IntKind.u64.wrap ((SO.mk 3 th e).e + 1))) 8 (SO.mk 3 th e).th 6) false).w = (stDo x j (SO.mk 3 th e)).R.L.w,
 (LS.mk 2 8 (SO.mk 3 th e).th 6 (dWord (dOf x.R.D.n (wdF x.R.D.W)) 8 (SO.mk 3 th e).th 6) (dWord (dPut (dOf x.R.D.n (wdF x.R.D.W)) 8 (SO.mk 3 th e).th 6 (IntKind.u64.wrap ((SO.mk 3 th e).e + 1))) 8 (SO.mk 3 th e).th 6) false).i = (stDo x j (SO.mk 3 th e)).R.L.i,
 (LS.mk 2 8 (SO.mk 3 th e).th 6 (dWord (dOf x.R.D.n (wdF x.R.D.W)) 8 (SO.mk 3 th e).th 6) (dWord (dPut (dOf x.R.D.n (wdF x.R.D.W)) 8 (SO.mk 3 th e).th 6 (IntKind.u64.wrap ((SO.mk 3 th e).e + 1))) 8 (SO.mk 3 th e).th 6) false).d = (stDo x j (SO.mk 3 th e)).R.L.d,
 false = false,
 (stDo x j (SO.mk 3 th e)).R.D.n ≤ (dPut (dOf x.R.D.n (wdF x.R.D.W)) 8 (SO.mk 3 th e).th 6 (IntKind.u64.wrap ((SO.mk 3 th e).e + 1))).n,
 wdF (stDo x j (SO.mk 3 th e)).R.D.W = wdF (dPut (dOf x.R.D.n (wdF x.R.D.W)) 8 (SO.mk 3 th e).th 6 (IntKind.u64.wrap ((SO.mk 3 th e).e + 1))).W ∧ plainSh wSh = true ∨ ∀ (i : Nat), i < (stDo x j (SO.mk 3 th e)).R.D.n → rowOb wSh 0 (wdF (dPut (dOf x.R.D.n (wdF x.R.D.W)) 8 (SO.mk 3 th e).th 6 (IntKind.u64.wrap ((SO.mk 3 th e).e + 1))).W i) (wdF (stDo x j (SO.mk 3 th e)).R.D.W i),
 Both (MS.mk (memPut x.S.M 8 (SO.mk 3 th e).th 6 (IntKind.u64.wrap ((SO.mk 3 th e).e + 1))) (IntKind.i64.wrap (x.S.st + 1)) (LS.mk 2 8 (SO.mk 3 th e).th 6 (mget x.S.M (key 8 (SO.mk 3 th e).th 6)) (memIs x.S.M 8 (SO.mk 3 th e).th 6 (IntKind.u64.wrap ((SO.mk 3 th e).e + 1))) false)) (mkR (dPut (dOf x.R.D.n (wdF x.R.D.W)) 8 (SO.mk 3 th e).th 6 (IntKind.u64.wrap ((SO.mk 3 th e).e + 1))).n (wdF (dPut (dOf x.R.D.n (wdF x.R.D.W)) 8 (SO.mk 3 th e).th 6 (IntKind.u64.wrap ((SO.mk 3 th e).e + 1))).W) (IntKind.i64.wrap (x.R.st + 1)) (LS.mk 2 8 (SO.mk 3 th e).th 6 (dWord (dOf x.R.D.n (wdF x.R.D.W)) 8 (SO.mk 3 th e).th 6) (dWord (dPut (dOf x.R.D.n (wdF x.R.D.W)) 8 (SO.mk 3 th e).th 6 (IntKind.u64.wrap ((SO.mk 3 th e).e + 1))) 8 (SO.mk 3 th e).th 6) false)),
 lrow 6703903964971298549787012499102923063739682910296196688861780721860882015036773488400937149083451713845015929093243025426876941405973284973216824503042048 2 (sgT m f ii x).M j (0 + ((IntKind.u64.wrap (avInt (f (0 + ii) 1))).tmod (IntKind.u64.wrap (Int.ofNat x.n))).toNat) 0 = AV.ptr 900 0 0,
 (0 + ((IntKind.u64.wrap (avInt (f (0 + ii) 1))).tmod (IntKind.u64.wrap (Int.ofNat x.n))).toNat).blt (sgT m f ii x).n = true,
 (((IntKind.u64.wrap (avInt (f (0 + ii) 1))).tmod (IntKind.u64.wrap (Int.ofNat x.n))).toNat.blt x.n && decide (0 ≤ (IntKind.u64.wrap (avInt (f (0 + ii) 1))).tmod (IntKind.u64.wrap (Int.ofNat x.n)))) = true,
 (0 : Int) ≤ (8 : Int),
 lrow 6703903964971298549787012499102923063739682910296196688861780721860882015036773488400937149083451713845015929093243025426876941405973284973216824503042048 2 (sgT m f ii x).M j (0 + ((IntKind.u64.wrap (avInt (f (0 + ii) 1))).tmod (IntKind.u64.wrap (Int.ofNat x.n))).toNat) 0 = AV.ptr 900 0 0,
 (0 + ((IntKind.u64.wrap (avInt (f (0 + ii) 1))).tmod (IntKind.u64.wrap (Int.ofNat x.n))).toNat).blt (sgT m f ii x).n = true,
 (((IntKind.u64.wrap (avInt (f (0 + ii) 1))).tmod (IntKind.u64.wrap (Int.ofNat x.n))).toNat.blt x.n && decide (0 ≤ (IntKind.u64.wrap (avInt (f (0 + ii) 1))).tmod (IntKind.u64.wrap (Int.ofNat x.n)))) = true,
 lrow 6703903964971298549787012499102923063739682910296196688861780721860882015036773488400937149083451713845015929093243025426876941405973284973216824503042048 2 (sgT m f ii x).M j (0 + ((IntKind.u64.wrap (avInt (f (0 + ii) 1))).tmod (IntKind.u64.wrap (Int.ofNat x.n))).toNat) 1 = AV.ptr 901 0 0,
 (0 + ((IntKind.u64.wrap (avInt (f (0 + ii) 1))).tmod (IntKind.u64.wrap (Int.ofNat x.n))).toNat).blt (sgT m f ii x).n = true,
 (((IntKind.u64.wrap (avInt (f (0 + ii) 1))).tmod (IntKind.u64.wrap (Int.ofNat x.n))).toNat.blt x.n && decide (0 ≤ (IntKind.u64.wrap (avInt (f (0 + ii) 1))).tmod (IntKind.u64.wrap (Int.ofNat x.n)))) = true,
 x.R.D.n ≤ x.R.D.n,
 x.R.D.n ≤ 100000,
 (0 : Int) ≤ (8 : Int),
 lrow 6703903964971298549787012499102923063739682910296196688861780721860882015036773488400937149083451713845015929093243025426876941405973284973216824503042048 2 (sgT m f ii x).M j (0 + ((IntKind.u64.wrap (avInt (f (0 + ii) 1))).tmod (IntKind.u64.wrap (Int.ofNat x.n))).toNat) 1 = AV.ptr 901 0 0,
 (0 + ((IntKind.u64.wrap (avInt (f (0 + ii) 1))).tmod (IntKind.u64.wrap (Int.ofNat x.n))).toNat).blt (sgT m f ii x).n = true,
 (((IntKind.u64.wrap (avInt (f (0 + ii) 1))).tmod (IntKind.u64.wrap (Int.ofNat x.n))).toNat.blt x.n && decide (0 ≤ (IntKind.u64.wrap (avInt (f (0 + ii) 1))).tmod (IntKind.u64.wrap (Int.ofNat x.n)))) = true,
 decide (IntKind.u64.wrap (Int.ofNat x.n) ≠ 0) = true,
 (Int.ofNat x.n == 0) = false,
 ((avInt (f (0 + ii) 0)).tmod 5 == 1) = false,
 ((avInt (f (0 + ii) 0)).tmod 5 == 0) = false,
 (0 + ii).blt m = true,
 (ii.blt m && decide (0 ≤ Int.ofNat ii)) = true,
 decide (Int.ofNat ii < Int.ofNat m) = true]) := by kernel_rfl
theorem sg9_1 (m : Nat) (f : Nat → Nat → AV) (ii : Nat) (x : ST) (j : Nat) (th e : Int) : roundB EPg 3000 sgL (B.h0F sgF (sgU m f)) [(8, Src.nm 8), (9, Src.nm 9), (10, Src.nm 613777908597553338584745666939938703455302000922859305369446856881303026370439987751523803994673878671632632322038681050654160566219747283068283519962), (900, Src.nm 900), (901, Src.nm 901)] (B.locSt sgF (sgT m f ii x) true (sMb (SO.mk 4 th e)) j []) [Hint.b true, Hint.b false, Hint.b false, Hint.b false, Hint.node [(3, [Hint.a (AV.ptr 901 0 0)])], Hint.a (AV.ptr 901 0 0), Hint.node [(3, [Hint.a (AV.ptr 900 0 0)]), (9, [Hint.b false]), (13, [Hint.a (AV.ptr 900 0 0)])], Hint.b false] (B.locSt sgF (sgT m f (ii + 1) (stDo x j (SO.mk 4 th e))) true (sMb (soO x.S (SO.mk 4 th e))) j []) =
 some (Ex.norm, [(0 : Nat) = 0,
 m = m,
 (none : Option Nat) = none,
 (0 : Nat) = 0,
 (0 : Nat) = 0,
 (0 : Nat) = 0,
 x.n = (stDo x j (SO.mk 4 th e)).n,
 (none : Option Nat) = none,
 (0 : Nat) = 0,
 x.n = (stDo x j (SO.mk 4 th e)).n,
 (none : Option Nat) = none,
 IntKind.i64.wrap (Int.ofNat ii + 1) = Int.ofNat (ii + 1),
 (SO.mk 4 th e).th = (soO x.S (SO.mk 4 th e)).th,
 (SO.mk 4 th e).e = (soO x.S (SO.mk 4 th e)).e,
 (SO.mk 4 th e).th = (soO x.S (SO.mk 4 th e)).th,
 (SO.mk 4 th e).e = (soO x.S (SO.mk 4 th e)).e,
 false = false,
 (sgT m f (ii + 1) (stDo x j (SO.mk 4 th e))).n ≤ (sgT m f ii x).n,
 ∀ (i : Nat), i < (sgT m f (ii + 1) (stDo x j (SO.mk 4 th e))).n → rowV (CM.mk 8 6703903964971298549787012499102923063739682910296196688861780721860882015036773488400937149083451713845015929093243025426876941405973284973216824503042048 [(8, Src.nm 8), (9, Src.nm 9), (10, Src.nm 613777908597553338584745666939938703455302000922859305369446856881303026370439987751523803994673878671632632322038681050654160566219747283068283519962), (900, Src.nm 900), (901, Src.nm 901)]) sgF.sh 0 (lrow 6703903964971298549787012499102923063739682910296196688861780721860882015036773488400937149083451713845015929093243025426876941405973284973216824503042048 2 (sgT m f ii x).M j i) (lrow 6703903964971298549787012499102923063739682910296196688861780721860882015036773488400937149083451713845015929093243025426876941405973284973216824503042048 2 (sgT m f (ii + 1) (stDo x j (SO.mk 4 th e))).M j i),
 false = false,
 (sgT m f (ii + 1) (stDo x j (SO.mk 4 th e))).n ≤ (sgT m f ii x).n,
 ∀ (i : Nat), i < (sgT m f (ii + 1) (stDo x j (SO.mk 4 th e))).n → rowV (CM.mk 8 6703903964971298549787012499102923063739682910296196688861780721860882015036773488400937149083451713845015929093243025426876941405973284973216824503042048 [(8, Src.nm 8), (9, Src.nm 9), (10, Src.nm 613777908597553338584745666939938703455302000922859305369446856881303026370439987751523803994673878671632632322038681050654160566219747283068283519962), (900, Src.nm 900), (901, Src.nm 901)]) sgF.sh2 0 (fun c => lrow 6703903964971298549787012499102923063739682910296196688861780721860882015036773488400937149083451713845015929093243025426876941405973284973216824503042048 2 (sgT m f ii x).M j i (c + 1)) fun c => lrow 6703903964971298549787012499102923063739682910296196688861780721860882015036773488400937149083451713845015929093243025426876941405973284973216824503042048 2 (sgT m f (ii + 1) (stDo x j (SO.mk 4 th e))).M j i (c + 1),
 (0 : Nat) = 0,
 (0 : Nat) = 0,
 (0 : Nat) = 0,
 (0 : Nat) = 0,
 true = true,
 m ≤ m,
 f = f ∧ plainSh asSh = true ∨ ∀ (i : Nat), i < m → rowOb asSh 0 (f i) (f i),
 (MS.mk (casM x.S.M 2 0 0 (SO.mk 4 th e).e (IntKind.u64.wrap ((SO.mk 4 th e).e + 1))) (IntKind.i64.wrap (x.S.st + 1)) (LS.mk 3 2 0 0 (mget x.S.M (key 2 0 0)) (casI x.S.M 2 0 0 (SO.mk 4 th e).e (IntKind.u64.wrap ((SO.mk 4 th e).e + 1))) (casD x.S.M 2 0 0 (SO.mk 4 th e).e))).st = (stDo x j (SO.mk 4 th e)).S.st,
 (3 : Int) = 3,
 (2 : Int) = 2,
 (0 : Int) = 0,
 (0 : Int) = 0,
 (MS.mk (casM x.S.M 2 0 0 (SO.mk 4 th e).e (IntKind.u64.wrap ((SO.mk 4 th e).e + 1))) (IntKind.i64.wrap (x.S.st + 1)) (LS.mk 3 2 0 0 (mget x.S.M (key 2 0 0)) (casI x.S.M 2 0 0 (SO.mk 4 th e).e (IntKind.u64.wrap ((SO.mk 4 th e).e + 1))) (casD x.S.M 2 0 0 (SO.mk 4 th e).e))).L.w = (stDo x j (SO.mk 4 th e)).S.L.w,
 (MS.mk (casM x.S.M 2 0 0 (SO.mk 4 th e).e (IntKind.u64.wrap ((SO.mk 4 th e).e + 1))) (IntKind.i64.wrap (x.S.st + 1)) (LS.mk 3 2 0 0 (mget x.S.M (key 2 0 0)) (casI x.S.M 2 0 0 (SO.mk 4 th e).e (IntKind.u64.wrap ((SO.mk 4 th e).e + 1))) (casD x.S.M 2 0 0 (SO.mk 4 th e).e))).L.i = (stDo x j (SO.mk 4 th e)).S.L.i,
 (MS.mk (casM x.S.M 2 0 0 (SO.mk 4 th e).e (IntKind.u64.wrap ((SO.mk 4 th e).e + 1))) (IntKind.i64.wrap (x.S.st + 1)) (LS.mk 3 2 0 0 (mget x.S.M (key 2 0 0)) (casI x.S.M 2 0 0 (SO.mk 4 th e).e (IntKind.u64.wrap ((SO.mk 4 th e).e + 1))) (casD x.S.M 2 0 0 (SO.mk 4 th e).e))).L.d = (stDo x j (SO.mk 4 th e)).S.L.d,
 ∀ (k : List Int), (MS.mk (casM x.S.M 2 0 0 (SO.mk 4 th e).e (IntKind.u64.wrap ((SO.mk 4 th e).e + 1))) (IntKind.i64.wrap (x.S.st + 1)) (LS.mk 3 2 0 0 (mget x.S.M (key 2 0 0)) (casI x.S.M 2 0 0 (SO.mk 4 th e).e (IntKind.u64.wrap ((SO.mk 4 th e).e + 1))) (casD x.S.M 2 0 0 (SO.mk 4 th e).e))).M k = (stDo x j (SO.mk 4 th e)).S.M k,
 (0 : Nat) = 0,
 (dCasM (dOf x.R.D.n (wdF x.R.D.W)) 2 0 0 (SO.mk 4 th e).e (IntKind.u64.wrap ((SO.mk 4 th e).e + 1))).n = (stDo x j (SO.mk 4 th e)).R.D.n,
 (none : Option Nat) = none,
 IntKind.i64.wrap (x.R.st + 1) = (stDo x j (SO.mk 4 th e)).R.st,
 (3 : Int) = 3,
 (2 : Int) = 2,
 (0 : Int) = 0,
 (0 : Int) = 0,
 (LS.mk 3 2 0 0 (dWord (dOf x.R.D.n (wdF x.R.D.W)) 2 0 0) (dWord (dCasM (dOf x.R.D.n (wdF x.R.D.W)) 2 0 0 (SO.mk 4 th e).e (IntKind.u64.wrap ((SO.mk 4 th e).e + 1))) 2 0 0) (dCasD (dOf x.R.D.n (wdF x.R.D.W)) 2 0 0 (SO.mk 4 th e).e)).w = (stDo x j (SO.mk 4 th e)).R.L.w,
 (LS.mk 3 2 0 0 (dWord (dOf x.R.D.n (wdF x.R.D.W)) 2 0 0) (dWord (dCasM (dOf x.R.D.n (wdF x.R.D.W)) 2 0 0 (SO.mk 4 th e).e (IntKind.u64.wrap ((SO.mk 4 th e).e + 1))) 2 0 0) (dCasD (dOf x.R.D.n (wdF x.R.D.W)) 2 0 0 (SO.mk 4 th e).e)).i = (stDo x j (SO.mk 4 th e)).R.L.i,
 (LS.mk 3 2 0 0 (dWord (dOf x.R.D.n (wdF x.R.D.W)) 2 0 0) (dWord (dCasM (dOf x.R.D.n (wdF x.R.D.W)) 2 0 0 (SO.mk 4 th e).e (IntKind.u64.wrap ((SO.mk 4 th e).e + 1))) 2 0 0) (dCasD (dOf x.R.D.n (wdF x.R.D.W)) 2 0 0 (SO.mk 4 th e).e)).d = (stDo x j (SO.mk 4 th e)).R.L.d,
 false = false,
 (stDo x j (SO.mk 4 th e)).R.D.n ≤ (dCasM (dOf x.R.D.n (wdF x.R.D.W)) 2 0 0 (SO.mk 4 th e).e (IntKind.u64.wrap ((SO.mk 4 th e).e + 1))).n,
 wdF (stDo x j (SO.mk 4 th e)).R.D.W = wdF (dCasM (dOf x.R.D.n (wdF x.R.D.W)) 2 0 0 (SO.mk 4 th e).e (IntKind.u64.wrap ((SO.mk 4 th e).e + 1))).W ∧ plainSh wSh = true ∨ ∀ (i : Nat), i < (stDo x j (SO.mk 4 th e)).R.D.n → rowOb wSh 0 (wdF (dCasM (dOf x.R.D.n (wdF x.R.D.W)) 2 0 0 (SO.mk 4 th e).e (IntKind.u64.wrap ((SO.mk 4 th e).e + 1))).W i) (wdF (stDo x j (SO.mk 4 th e)).R.D.W i),
 Both (MS.mk (casM x.S.M 2 0 0 (SO.mk 4 th e).e (IntKind.u64.wrap ((SO.mk 4 th e).e + 1))) (IntKind.i64.wrap (x.S.st + 1)) (LS.mk 3 2 0 0 (mget x.S.M (key 2 0 0)) (casI x.S.M 2 0 0 (SO.mk 4 th e).e (IntKind.u64.wrap ((SO.mk 4 th e).e + 1))) (casD x.S.M 2 0 0 (SO.mk 4 th e).e))) (mkR (dCasM (dOf x.R.D.n (wdF x.R.D.W)) 2 0 0 (SO.mk 4 th e).e (IntKind.u64.wrap ((SO.mk 4 th e).e + 1))).n (wdF (dCasM (dOf x.R.D.n (wdF x.R.D.W)) 2 0 0 (SO.mk 4 th e).e (IntKind.u64.wrap ((SO.mk 4 th e).e + 1))).W) (IntKind.i64.wrap (x.R.st + 1)) (LS.mk 3 2 0 0 (dWord (dOf x.R.D.n (wdF x.R.D.W)) 2 0 0) (dWord (dCasM (dOf x.R.D.n (wdF x.R.D.W)) 2 0 0 (SO.mk 4 th e).e (IntKind.u64.wrap ((SO.mk 4 th e).e + 1))) 2 0 0) (dCasD (dOf x.R.D.n (wdF x.R.D.W)) 2 0 0 (SO.mk 4 th e).e))),
 lrow 6703903964971298549787012499102923063739682910296196688861780721860882015036773488400937149083451713845015929093243025426876941405973284973216824503042048 2 (sgT m f ii x).M j (0 + ((IntKind.u64.wrap (avInt (f (0 + ii) 1))).tmod (IntKind.u64.wrap (Int.ofNat x.n))).toNat) 0 = AV.ptr 900 0 0,
 (0 + ((IntKind.u64.wrap (avInt (f (0 + ii) 1))).tmod (IntKind.u64.wrap (Int.ofNat x.n))).toNat).blt (sgT m f ii x).n = true,
 (((IntKind.u64.wrap (avInt (f (0 + ii) 1))).tmod (IntKind.u64.wrap (Int.ofNat x.n))).toNat.blt x.n && decide (0 ≤ (IntKind.u64.wrap (avInt (f (0 + ii) 1))).tmod (IntKind.u64.wrap (Int.ofNat x.n)))) = true,
 (0 : Int) ≤ (2 : Int),
 lrow 6703903964971298549787012499102923063739682910296196688861780721860882015036773488400937149083451713845015929093243025426876941405973284973216824503042048 2 (sgT m f ii x).M j (0 + ((IntKind.u64.wrap (avInt (f (0 + ii) 1))).tmod (IntKind.u64.wrap (Int.ofNat x.n))).toNat) 0 = AV.ptr 900 0 0,
 (0 + ((IntKind.u64.wrap (avInt (f (0 + ii) 1))).tmod (IntKind.u64.wrap (Int.ofNat x.n))).toNat).blt (sgT m f ii x).n = true,
 (((IntKind.u64.wrap (avInt (f (0 + ii) 1))).tmod (IntKind.u64.wrap (Int.ofNat x.n))).toNat.blt x.n && decide (0 ≤ (IntKind.u64.wrap (avInt (f (0 + ii) 1))).tmod (IntKind.u64.wrap (Int.ofNat x.n)))) = true,
 lrow 6703903964971298549787012499102923063739682910296196688861780721860882015036773488400937149083451713845015929093243025426876941405973284973216824503042048 2 (sgT m f ii x).M j (0 + ((IntKind.u64.wrap (avInt (f (0 + ii) 1))).tmod (IntKind.u64.wrap (Int.ofNat x.n))).toNat) 1 = AV.ptr 901 0 0,
 (0 + ((IntKind.u64.wrap (avInt (f (0 + ii) 1))).tmod (IntKind.u64.wrap (Int.ofNat x.n))).toNat).blt (sgT m f ii x).n = true,
 (((IntKind.u64.wrap (avInt (f (0 + ii) 1))).tmod (IntKind.u64.wrap (Int.ofNat x.n))).toNat.blt x.n && decide (0 ≤ (IntKind.u64.wrap (avInt (f (0 + ii) 1))).tmod (IntKind.u64.wrap (Int.ofNat x.n)))) = true,
 x.R.D.n ≤ x.R.D.n,
 x.R.D.n ≤ 100000,
 (0 : Int) ≤ (2 : Int),
 lrow 6703903964971298549787012499102923063739682910296196688861780721860882015036773488400937149083451713845015929093243025426876941405973284973216824503042048 2 (sgT m f ii x).M j (0 + ((IntKind.u64.wrap (avInt (f (0 + ii) 1))).tmod (IntKind.u64.wrap (Int.ofNat x.n))).toNat) 1 = AV.ptr 901 0 0,
 (0 + ((IntKind.u64.wrap (avInt (f (0 + ii) 1))).tmod (IntKind.u64.wrap (Int.ofNat x.n))).toNat).blt (sgT m f ii x).n = true,
 (((IntKind.u64.wrap (avInt (f (0 + ii) 1))).tmod (IntKind.u64.wrap (Int.ofNat x.n))).toNat.blt x.n && decide (0 ≤ (IntKind.u64.wrap (avInt (f (0 + ii) 1))).tmod (IntKind.u64.wrap (Int.ofNat x.n)))) = true,
 decide (IntKind.u64.wrap (Int.ofNat x.n) ≠ 0) = true,
 (Int.ofNat x.n == 0) = false,
 ((avInt (f (0 + ii) 0)).tmod 5 == 1) = false,
 ((avInt (f (0 + ii) 0)).tmod 5 == 0) = false,
 (0 + ii).blt m = true,
 (ii.blt m && decide (0 ≤ Int.ofNat ii)) = true,
 decide (Int.ofNat ii < Int.ofNat m) = true]) := by kernel_rfl
theorem sge_1 (m : Nat) (f : Nat → Nat → AV) (ii : Nat) (x : ST) : roundB EPg 3000 sgL ((sgU m f).hp) [(10, Src.nm 10)] (B.locSt sgF (sgT m f ii x) false (sMb (x.O x.n)) x.n []) [Hint.b false] (sgX m f x.S x.R) =
 some (Ex.exit 0, [(0 : Nat) = 0,
 m = m,
 (none : Option Nat) = none,
 (0 : Nat) = 0,
 (0 : Nat) = 0,
 (0 : Nat) = 0,
 (0 : Nat) = 0,
 (0 : Nat) = 0,
 (0 : Nat) = 0,
 true = true,
 m ≤ m,
 f = f ∧ plainSh asSh = true ∨ ∀ (i : Nat), i < m → rowOb asSh 0 (f i) (f i),
 x.S.st = x.S.st,
 x.S.L.c = x.S.L.c,
 x.S.L.k = x.S.L.k,
 x.S.L.a = x.S.L.a,
 x.S.L.f = x.S.L.f,
 x.S.L.w = x.S.L.w,
 x.S.L.i = x.S.L.i,
 x.S.L.d = x.S.L.d,
 ∀ (k : List Int), x.S.M k = x.S.M k,
 (0 : Nat) = 0,
 x.R.D.n = x.R.D.n,
 (none : Option Nat) = none,
 x.R.st = x.R.st,
 x.R.L.c = x.R.L.c,
 x.R.L.k = x.R.L.k,
 x.R.L.a = x.R.L.a,
 x.R.L.f = x.R.L.f,
 x.R.L.w = x.R.L.w,
 x.R.L.i = x.R.L.i,
 x.R.L.d = x.R.L.d,
 false = false,
 x.R.D.n ≤ x.R.D.n,
 wdF x.R.D.W = wdF x.R.D.W ∧ plainSh wSh = true ∨ ∀ (i : Nat), i < x.R.D.n → rowOb wSh 0 (wdF x.R.D.W i) (wdF x.R.D.W i),
 decide (Int.ofNat ii < Int.ofNat m) = false]) := by kernel_rfl
theorem sgi_1 (m : Nat) (f : Nat → Nat → AV) : castSt (B.h0F sgF (sgU m f)) [(8, Src.nil 1), (9, Src.nil 1), (10, Src.nil 4)] (sgU m f) (B.locSt sgF (sgT m f 0 (stN f 0)) false (Mb.mk [] []) 0 []) =
 some ([(0 : Nat) = 0,
 m = m,
 (none : Option Nat) = none,
 (0 : Nat) = 0,
 (0 : Nat) = 0,
 (0 : Nat) = 0,
 (0 : Nat) = 0,
 (none : Option Nat) = none,
 (0 : Nat) = 0,
 (0 : Nat) = 0,
 (none : Option Nat) = none,
 (0 : Int) = 0,
 (0 : Nat) = 0,
 (0 : Nat) = 0,
 (0 : Nat) = 0,
 (0 : Nat) = 0,
 (0 : Nat) = 0,
 (0 : Nat) = 0,
 true = true,
 m ≤ m,
 f = f ∧ plainSh asSh = true ∨ ∀ (i : Nat), i < m → rowOb asSh 0 (f i) (f i),
 (0 : Int) = 0,
 (0 : Int) = 0,
 (0 : Int) = 0,
 (0 : Int) = 0,
 (0 : Int) = 0,
 (0 : Int) = 0,
 (0 : Int) = 0,
 false = (stN f 0).S.L.d,
 ∀ (k : List Int), none = (stN f 0).S.M k,
 (0 : Nat) = 0,
 (0 : Nat) = 0,
 (none : Option Nat) = none,
 (0 : Int) = 0,
 (0 : Int) = 0,
 (0 : Int) = 0,
 (0 : Int) = 0,
 (0 : Int) = 0,
 (0 : Int) = 0,
 (0 : Int) = 0,
 false = (stN f 0).R.L.d,
 (0 : Nat) = 0]) := by kernel_rfl
set_option maxHeartbeats 4000000 in
theorem sg_lp (m : Nat) (f : Nat → Nat → AV) (hm : m ≤ 200) (hr : ∀ i, i < m → 0 ≤ avInt (f i 2) ∧ 0 ≤ avInt (f i 5) ∧ avInt (f i 5) < 18446744073709551616) : sgLP m f := by
  refine B.fam_rule EPg_ok sgFam ⟨by show 8 ≤ 900; omega, rfl, fun n o hg => .inl (ltAll_get _ rfl n o hg)⟩ (fun z : Nat × ST => sgT m f z.1 z.2) (fun z => m - z.1) (fun z => z.1 ≤ m ∧ z.2 = stN f z.1) (fun z hz => ?_) ?_ (fun z hz => ?_)
  · obtain ⟨ii, x⟩ := z
    obtain ⟨h1, h2⟩ := hz
    have h1 : ii ≤ m := h1
    have h2 : x = stN f ii := h2
    have := (stN_ok (f := f) ii (fun k hk => (hr k (by omega)).2)).n
    rw [← h2] at this
    exact sgOk (x := x) (by omega)
  ·
    refine ⟨(0, stN f 0), [(8, Src.nil 1), (9, Src.nil 1), (10, Src.nil 4)], _, ⟨Nat.zero_le _, rfl⟩, (fun k hk => absurd hk (Nat.not_lt_zero k)), sgi_1 .., (ob_cons rfl (ob_cons rfl (ob_cons rfl (ob_cons rfl (ob_cons rfl (ob_cons rfl (ob_cons rfl (ob_cons rfl (ob_cons rfl (ob_cons rfl (ob_cons rfl (ob_cons rfl (ob_cons rfl (ob_cons rfl (ob_cons rfl (ob_cons rfl (ob_cons rfl (ob_cons rfl (ob_cons rfl (ob_cons (Nat.le_refl _) (ob_cons (.inl ⟨rfl, rfl⟩) (ob_cons rfl (ob_cons rfl (ob_cons rfl (ob_cons rfl (ob_cons rfl (ob_cons rfl (ob_cons rfl (ob_cons ?_ (ob_cons ?_ (ob_cons rfl (ob_cons rfl (ob_cons rfl (ob_cons rfl (ob_cons rfl (ob_cons rfl (ob_cons rfl (ob_cons rfl (ob_cons rfl (ob_cons rfl (ob_cons ?_ (ob_cons rfl ob_nil))))))))))))))))))))))))))))))))))))))))))⟩
    · exact rfl
    · exact fun _ => rfl
    · exact rfl
  · obtain ⟨ii, x⟩ := z
    obtain ⟨hi, hx⟩ := hz
    have hi : ii ≤ m := hi
    have hx : x = stN f ii := hx
    have hE := stN_ok (f := f) ii (fun k hk => (hr k (by omega)).2)
    rw [← hx] at hE
    by_cases hin : ii < m
    · have hnum := hE.f.fine.num
      have hn := hE.n
      have hb := hE.f.fine.both
      have hu : ∀ k, 0 ≤ mget x.S.M k ∧ mget x.S.M k < 18446744073709551616 := hE.f.u
      have hri := hr ii hin
      have hnble : (0 + x.n).ble (sgT m f ii x).n = true := by rw [Nat.zero_add]; exact Nat.ble_eq_true_of_le (Nat.le_refl x.n)
      have hk2 : 0 ≤ avInt (f (0 + ii) 2) := by rw [Nat.zero_add]; exact hri.1
      have hwi : IntKind.i64.wrap (Int.ofNat ii + 1) = Int.ofNat (ii + 1) := wrap_nat64 _ (by simp; omega) (by simp; omega)
      have hnx : ∀ y, y = stStep (f (0 + ii)) x → (fun z : Nat × ST => z.1 ≤ m ∧ z.2 = stN f z.1) (ii + 1, y) := fun y e => ⟨by show ii + 1 ≤ m; omega, by show y = stStep (f ii) (stN f ii); rw [e, hx, Nat.zero_add]⟩
      by_cases hk0 : (avInt (f (0 + ii) 0)).tmod 5 = 0
      · by_cases hw : (avInt (f (0 + ii) 1)) < 0
        · have hok := hnx (stAdd x (SO.mk 0 0 0)) (by unfold stStep; rw [if_pos hk0]; unfold sNew; rw [if_pos hw])
          refine B.fam_norm (F := sgF) (s0 := sgU m f) (X := Nat × ST) (T := fun z => sgT m f z.1 z.2) (x := (ii, x)) (ii + 1, stAdd x (SO.mk 0 0 0)) x.n false true (sg0_1 ..) (ob_cons rfl (ob_cons rfl (ob_cons rfl (ob_cons rfl (ob_cons rfl (ob_cons rfl (ob_cons ?_ (ob_cons rfl (ob_cons rfl (ob_cons ?_ (ob_cons rfl (ob_cons ?_ (ob_cons rfl (ob_cons rfl (ob_cons rfl (ob_cons rfl (ob_cons rfl (ob_cons ?_ (ob_cons ?_ (ob_cons rfl (ob_cons ?_ (ob_cons ?_ (ob_cons rfl (ob_cons rfl (ob_cons rfl (ob_cons rfl (ob_cons rfl (ob_cons (Nat.le_refl _) (ob_cons (.inl ⟨rfl, rfl⟩) (ob_cons ?_ (ob_cons ?_ (ob_cons ?_ (ob_cons ?_ (ob_cons ?_ (ob_cons ?_ (ob_cons ?_ (ob_cons ?_ (ob_cons ?_ (ob_cons rfl (ob_cons ?_ (ob_cons rfl (ob_cons ?_ (ob_cons ?_ (ob_cons ?_ (ob_cons ?_ (ob_cons ?_ (ob_cons ?_ (ob_cons ?_ (ob_cons ?_ (ob_cons rfl (ob_cons ?_ (ob_cons ?_ (ob_cons ?_ (ob_cons ?_ (ob_cons ?_ (ob_cons ?_ (ob_cons ?_ (ob_cons ?_ (ob_cons ?_ (ob_cons ?_ (ob_cons ?_ (ob_cons ?_ (ob_cons ?_ ob_nil))))))))))))))))))))))))))))))))))))))))))))))))))))))))))))))) (fun h => by cases h) rfl hok (by show m - (ii + 1) < m - ii; omega) (by show sMb (if x.n = x.n then _ else _) = _; rw [if_pos rfl]) (.inl ⟨rfl, Nat.lt_succ_self _⟩) (fun i hi hne => ⟨(by have hi : i < x.n + 1 := hi; show i < x.n; omega), (by show sMb (if i = x.n then _ else _) = sMb _; rw [if_neg hne])⟩)
          · exact rfl
          · exact rfl
          · assumption
          · exact Nat.le_refl _
          · exact sg_add rfl rfl _
          · exact Nat.le_refl _
          · exact sg_add2 rfl rfl _
          · exact rfl
          · exact rfl
          · exact rfl
          · exact rfl
          · exact rfl
          · exact rfl
          · exact rfl
          · exact rfl
          · exact fun _ => rfl
          · exact rfl
          · exact rfl
          · exact rfl
          · exact rfl
          · exact rfl
          · exact rfl
          · exact rfl
          · exact rfl
          · exact rfl
          · exact Nat.le_refl _
          · exact .inl ⟨rfl, rfl⟩
          · assumption
          · (simp [Nat.blt_eq]; omega)
          · assumption
          · exact decide_eq_true hw
          · (simp [Nat.blt_eq]; omega)
          · assumption
          · exact decide_eq_true hw
          · assumption
          · (simp [Nat.blt_eq]; omega)
          · (simp [Nat.blt_eq]; omega)
          · (simp [Nat.blt_eq]; omega)
        by_cases hw2 : 16 ≤ (avInt (f (0 + ii) 1))
        · have hw3 : ¬ avInt (f ii 1) < 0 := by have h := hw; rwa [Nat.zero_add] at h
          have hw4 : 16 ≤ avInt (f ii 1) := by have h := hw2; rwa [Nat.zero_add] at h
          have hok := hnx (stAdd x (SO.mk 0 0 0)) (by unfold stStep; rw [if_pos hk0]; unfold sNew; rw [if_neg hw, if_pos hw2])
          refine B.fam_norm (F := sgF) (s0 := sgU m f) (X := Nat × ST) (T := fun z => sgT m f z.1 z.2) (x := (ii, x)) (ii + 1, stAdd x (SO.mk 0 0 0)) x.n false true (sg1_1 ..) (ob_cons rfl (ob_cons rfl (ob_cons rfl (ob_cons rfl (ob_cons rfl (ob_cons rfl (ob_cons ?_ (ob_cons rfl (ob_cons rfl (ob_cons ?_ (ob_cons rfl (ob_cons ?_ (ob_cons rfl (ob_cons rfl (ob_cons rfl (ob_cons rfl (ob_cons rfl (ob_cons ?_ (ob_cons ?_ (ob_cons rfl (ob_cons ?_ (ob_cons ?_ (ob_cons rfl (ob_cons rfl (ob_cons rfl (ob_cons rfl (ob_cons rfl (ob_cons (Nat.le_refl _) (ob_cons (.inl ⟨rfl, rfl⟩) (ob_cons ?_ (ob_cons ?_ (ob_cons ?_ (ob_cons ?_ (ob_cons ?_ (ob_cons ?_ (ob_cons ?_ (ob_cons ?_ (ob_cons ?_ (ob_cons rfl (ob_cons ?_ (ob_cons rfl (ob_cons ?_ (ob_cons ?_ (ob_cons ?_ (ob_cons ?_ (ob_cons ?_ (ob_cons ?_ (ob_cons ?_ (ob_cons ?_ (ob_cons rfl (ob_cons ?_ (ob_cons ?_ (ob_cons ?_ (ob_cons ?_ (ob_cons ?_ (ob_cons ?_ (ob_cons ?_ (ob_cons ?_ (ob_cons ?_ (ob_cons ?_ (ob_cons ?_ (ob_cons ?_ (ob_cons ?_ (ob_cons ?_ (ob_cons ?_ ob_nil))))))))))))))))))))))))))))))))))))))))))))))))))))))))))))))))) (fun h => by cases h) rfl hok (by show m - (ii + 1) < m - ii; omega) (by show sMb (if x.n = x.n then _ else _) = _; rw [if_pos rfl]) (.inl ⟨rfl, Nat.lt_succ_self _⟩) (fun i hi hne => ⟨(by have hi : i < x.n + 1 := hi; show i < x.n; omega), (by show sMb (if i = x.n then _ else _) = sMb _; rw [if_neg hne])⟩)
          · exact rfl
          · exact rfl
          · assumption
          · exact Nat.le_refl _
          · exact sg_add rfl rfl _
          · exact Nat.le_refl _
          · exact sg_add2 rfl rfl _
          · exact rfl
          · exact rfl
          · exact rfl
          · exact rfl
          · exact rfl
          · exact rfl
          · exact rfl
          · exact rfl
          · exact fun _ => rfl
          · exact rfl
          · exact rfl
          · exact rfl
          · exact rfl
          · exact rfl
          · exact rfl
          · exact rfl
          · exact rfl
          · exact rfl
          · exact Nat.le_refl _
          · exact .inl ⟨rfl, rfl⟩
          · assumption
          · (simp [Nat.blt_eq]; omega)
          · assumption
          · (simp [Nat.blt_eq]; omega)
          · exact decide_eq_false (by omega)
          · (simp [Nat.blt_eq]; omega)
          · assumption
          · exact decide_eq_true (by omega)
          · exact decide_eq_false (by omega)
          · assumption
          · (simp [Nat.blt_eq]; omega)
          · (simp [Nat.blt_eq]; omega)
          · (simp [Nat.blt_eq]; omega)
        have hw3 : ¬ avInt (f ii 1) < 0 := by have h := hw; rwa [Nat.zero_add] at h
        have hw4 : ¬ 16 ≤ avInt (f ii 1) := by have h := hw2; rwa [Nat.zero_add] at h
        have hok := hnx (stAdd x (SO.mk 1 (avInt (f (0 + ii) 1)) 0)) (by unfold stStep; rw [if_pos hk0]; unfold sNew; rw [if_neg hw, if_neg hw2])
        refine B.fam_norm (F := sgF) (s0 := sgU m f) (X := Nat × ST) (T := fun z => sgT m f z.1 z.2) (x := (ii, x)) (ii + 1, stAdd x (SO.mk 1 (avInt (f (0 + ii) 1)) 0)) x.n false true (sg2_1 ..) (ob_cons rfl (ob_cons rfl (ob_cons rfl (ob_cons rfl (ob_cons rfl (ob_cons rfl (ob_cons ?_ (ob_cons rfl (ob_cons rfl (ob_cons ?_ (ob_cons rfl (ob_cons ?_ (ob_cons ?_ (ob_cons rfl (ob_cons ?_ (ob_cons rfl (ob_cons rfl (ob_cons ?_ (ob_cons ?_ (ob_cons rfl (ob_cons ?_ (ob_cons ?_ (ob_cons rfl (ob_cons rfl (ob_cons rfl (ob_cons rfl (ob_cons rfl (ob_cons (Nat.le_refl _) (ob_cons (.inl ⟨rfl, rfl⟩) (ob_cons ?_ (ob_cons ?_ (ob_cons ?_ (ob_cons ?_ (ob_cons ?_ (ob_cons ?_ (ob_cons ?_ (ob_cons ?_ (ob_cons ?_ (ob_cons rfl (ob_cons ?_ (ob_cons rfl (ob_cons ?_ (ob_cons ?_ (ob_cons ?_ (ob_cons ?_ (ob_cons ?_ (ob_cons ?_ (ob_cons ?_ (ob_cons ?_ (ob_cons rfl (ob_cons ?_ (ob_cons ?_ (ob_cons ?_ (ob_cons ?_ (ob_cons ?_ (ob_cons ?_ (ob_cons ?_ (ob_cons ?_ (ob_cons ?_ (ob_cons ?_ (ob_cons ?_ (ob_cons ?_ (ob_cons ?_ (ob_cons ?_ (ob_cons ?_ ob_nil))))))))))))))))))))))))))))))))))))))))))))))))))))))))))))))))) (fun h => by cases h) rfl hok (by show m - (ii + 1) < m - ii; omega) (by show sMb (if x.n = x.n then _ else _) = _; rw [if_pos rfl]) (.inl ⟨rfl, Nat.lt_succ_self _⟩) (fun i hi hne => ⟨(by have hi : i < x.n + 1 := hi; show i < x.n; omega), (by show sMb (if i = x.n then _ else _) = sMb _; rw [if_neg hne])⟩)
        · exact rfl
        · exact rfl
        · assumption
        · exact rfl
        · exact rfl
        · exact Nat.le_refl _
        · exact sg_add rfl rfl _
        · exact Nat.le_refl _
        · exact sg_add2 rfl rfl _
        · exact rfl
        · exact rfl
        · exact rfl
        · exact rfl
        · exact rfl
        · exact rfl
        · exact rfl
        · exact rfl
        · exact fun _ => rfl
        · exact rfl
        · exact rfl
        · exact rfl
        · exact rfl
        · exact rfl
        · exact rfl
        · exact rfl
        · exact rfl
        · exact rfl
        · exact Nat.le_refl _
        · exact .inl ⟨rfl, rfl⟩
        · assumption
        · (simp [Nat.blt_eq]; omega)
        · assumption
        · (simp [Nat.blt_eq]; omega)
        · exact decide_eq_false (by omega)
        · (simp [Nat.blt_eq]; omega)
        · assumption
        · exact decide_eq_false (by omega)
        · exact decide_eq_false (by omega)
        · assumption
        · (simp [Nat.blt_eq]; omega)
        · (simp [Nat.blt_eq]; omega)
        · (simp [Nat.blt_eq]; omega)
      by_cases hk1 : (avInt (f (0 + ii) 0)).tmod 5 = 1
      · have hok := hnx (ST.mk (mStore x.S (avInt (f (0 + ii) 2)) (avInt (f (0 + ii) 3)) (avInt (f (0 + ii) 4)) (avInt (f (0 + ii) 5))) (rStore x.R (avInt (f (0 + ii) 2)) (avInt (f (0 + ii) 3)) (avInt (f (0 + ii) 4)) (avInt (f (0 + ii) 5))) x.n x.O) (by unfold stStep; rw [if_neg hk0, if_pos hk1])
        have hbS := hb.store (avInt (f (0 + ii) 2)) (avInt (f (0 + ii) 3)) (avInt (f (0 + ii) 4)) (avInt (f (0 + ii) 5))
        refine B.fam_norm (F := sgF) (s0 := sgU m f) (X := Nat × ST) (T := fun z => sgT m f z.1 z.2) (x := (ii, x)) (ii + 1, (ST.mk (mStore x.S (avInt (f (0 + ii) 2)) (avInt (f (0 + ii) 3)) (avInt (f (0 + ii) 4)) (avInt (f (0 + ii) 5))) (rStore x.R (avInt (f (0 + ii) 2)) (avInt (f (0 + ii) 3)) (avInt (f (0 + ii) 4)) (avInt (f (0 + ii) 5))) x.n x.O)) x.n false false (sg3_1 ..) (ob_cons rfl (ob_cons rfl (ob_cons rfl (ob_cons rfl (ob_cons rfl (ob_cons rfl (ob_cons ?_ (ob_cons rfl (ob_cons rfl (ob_cons ?_ (ob_cons rfl (ob_cons ?_ (ob_cons rfl (ob_cons ?_ (ob_cons ?_ (ob_cons rfl (ob_cons ?_ (ob_cons ?_ (ob_cons rfl (ob_cons rfl (ob_cons rfl (ob_cons rfl (ob_cons rfl (ob_cons (Nat.le_refl _) (ob_cons (.inl ⟨rfl, rfl⟩) (ob_cons ?_ (ob_cons rfl (ob_cons ?_ (ob_cons ?_ (ob_cons ?_ (ob_cons ?_ (ob_cons ?_ (ob_cons ?_ (ob_cons ?_ (ob_cons rfl (ob_cons ?_ (ob_cons rfl (ob_cons ?_ (ob_cons rfl (ob_cons ?_ (ob_cons ?_ (ob_cons ?_ (ob_cons ?_ (ob_cons ?_ (ob_cons ?_ (ob_cons rfl (ob_cons ?_ (ob_cons ?_ (ob_cons ?_ (ob_cons (Nat.le_refl _) (ob_cons ?_ (ob_cons ?_ (ob_cons ?_ (ob_cons ?_ (ob_cons ?_ (ob_cons ?_ (ob_cons ?_ ob_nil))))))))))))))))))))))))))))))))))))))))))))))))))))))))) (fun h => by cases h) rfl hok (by show m - (ii + 1) < m - ii; omega) rfl (.inr ⟨rfl, Nat.le_refl _⟩) (fun i hi hne => ⟨hi, rfl⟩)
        · exact rfl
        · exact rfl
        · assumption
        · exact Nat.le_refl _
        · exact sg_no (x := x) rfl (Nat.le_refl _) rfl (fun _ => rfl)
        · exact Nat.le_refl _
        · exact sg_no2 (x := x) rfl (Nat.le_refl _) rfl (fun _ => rfl)
        · exact rfl
        · exact rfl
        · exact rfl
        · exact rfl
        · exact rfl
        · exact rfl
        · exact rfl
        · exact fun _ => rfl
        · exact rfl
        · exact rfl
        · exact rfl
        · exact rfl
        · exact rfl
        · exact rfl
        · exact rfl
        · exact rfl
        · exact Nat.le_refl _
        · exact .inl ⟨rfl, rfl⟩
        · assumption
        · (simp [Nat.blt_eq]; omega)
        · assumption
        · exact eqT hk1
        · exact eqF hk0
        · (simp [Nat.blt_eq]; omega)
        · (simp [Nat.blt_eq]; omega)
        · (simp [Nat.blt_eq]; omega)
      by_cases hn0 : x.n = 0
      · have hok := hnx x (by unfold stStep; rw [if_neg hk0, if_neg hk1, if_pos hn0])
        refine B.fam_norm (F := sgF) (s0 := sgU m f) (X := Nat × ST) (T := fun z => sgT m f z.1 z.2) (x := (ii, x)) (ii + 1, x) x.n false false (sg4_1 ..) (ob_cons rfl (ob_cons rfl (ob_cons rfl (ob_cons rfl (ob_cons rfl (ob_cons rfl (ob_cons rfl (ob_cons rfl (ob_cons rfl (ob_cons rfl (ob_cons rfl (ob_cons ?_ (ob_cons rfl (ob_cons ?_ (ob_cons ?_ (ob_cons rfl (ob_cons ?_ (ob_cons ?_ (ob_cons rfl (ob_cons rfl (ob_cons rfl (ob_cons rfl (ob_cons rfl (ob_cons (Nat.le_refl _) (ob_cons (.inl ⟨rfl, rfl⟩) (ob_cons rfl (ob_cons rfl (ob_cons rfl (ob_cons rfl (ob_cons rfl (ob_cons rfl (ob_cons rfl (ob_cons rfl (ob_cons (fun _ => rfl) (ob_cons rfl (ob_cons rfl (ob_cons rfl (ob_cons rfl (ob_cons rfl (ob_cons rfl (ob_cons rfl (ob_cons rfl (ob_cons rfl (ob_cons rfl (ob_cons rfl (ob_cons rfl (ob_cons (Nat.le_refl _) (ob_cons (.inl ⟨rfl, rfl⟩) (ob_cons ?_ (ob_cons ?_ (ob_cons ?_ (ob_cons ?_ (ob_cons ?_ (ob_cons ?_ ob_nil)))))))))))))))))))))))))))))))))))))))))))))))))))))) (fun h => by cases h) rfl hok (by show m - (ii + 1) < m - ii; omega) rfl (.inr ⟨rfl, Nat.le_refl _⟩) (fun i hi hne => ⟨hi, rfl⟩)
        · assumption
        · exact Nat.le_refl _
        · exact sg_no (x := x) rfl (Nat.le_refl _) rfl (fun _ => rfl)
        · exact Nat.le_refl _
        · exact sg_no2 (x := x) rfl (Nat.le_refl _) rfl (fun _ => rfl)
        · (simp [Nat.blt_eq]; omega)
        · exact eqF hk1
        · exact eqF hk0
        · (simp [Nat.blt_eq]; omega)
        · (simp [Nat.blt_eq]; omega)
        · (simp [Nat.blt_eq]; omega)
      have hjx := jX_lt (f (0 + ii)) hn0 (by omega)
      generalize hj : jX (f (0 + ii)) x.n = j at hjx
      obtain ⟨hjn, hjr⟩ := hjx
      have hok := hnx (stDo x j (x.O j)) (by unfold stStep; rw [if_neg hk0, if_neg hk1, if_neg hn0, hj])
      have hjb : (0 + ((IntKind.u64.wrap (avInt (f (0 + ii) 1))).tmod (IntKind.u64.wrap (Int.ofNat x.n))).toNat).blt (sgT m f ii x).n = true := by
        rw [Nat.zero_add, show ((IntKind.u64.wrap (avInt (f (0 + ii) 1))).tmod (IntKind.u64.wrap (Int.ofNat x.n))).toNat = j from hj]; exact (by simpa [Nat.blt_eq] using hjn : Nat.blt j x.n = true)
      have hjb2 : (((IntKind.u64.wrap (avInt (f (0 + ii) 1))).tmod (IntKind.u64.wrap (Int.ofNat x.n))).toNat.blt x.n && decide (0 ≤ ((IntKind.u64.wrap (avInt (f (0 + ii) 1))).tmod (IntKind.u64.wrap (Int.ofNat x.n))))) = true := by
        rw [show ((IntKind.u64.wrap (avInt (f (0 + ii) 1))).tmod (IntKind.u64.wrap (Int.ofNat x.n))).toNat = j from hj, Bool.and_eq_true]
        exact ⟨by simpa [Nat.blt_eq] using hjn, decide_eq_true hjr⟩
      have hnw : decide (IntKind.u64.wrap (Int.ofNat x.n) ≠ 0) = true := by
        rw [u64w (by simp) (by simp; omega)]
        exact decide_eq_true (by simp; omega)
      have hl : ∀ c, lrow sgF.b0 2 (sgT m f ii x).M j (0 + ((IntKind.u64.wrap (avInt (f (0 + ii) 1))).tmod (IntKind.u64.wrap (Int.ofNat x.n))).toNat) c = mrow 2 900 (sMb (x.O j)) c := fun c => by
        rw [Nat.zero_add, show ((IntKind.u64.wrap (avInt (f (0 + ii) 1))).tmod (IntKind.u64.wrap (Int.ofNat x.n))).toNat = j from hj]
        exact lrow_j rfl
      have hoo := hE.o j
      have hbS := (so_mem hE.f (x.O j)).fine.both
      generalize ho : x.O j = oj at hl hoo hok hbS
      obtain ⟨ln, th, e⟩ := oj
      match ln, ho, hl, hoo, hok, hbS with
      | 0, ho, hl, hoo, hok, hbS =>
        have q0 : lrow 6703903964971298549787012499102923063739682910296196688861780721860882015036773488400937149083451713845015929093243025426876941405973284973216824503042048 2 (sgT m f ii x).M j (0 + ((IntKind.u64.wrap (avInt (f (0 + ii) 1))).tmod (IntKind.u64.wrap (Int.ofNat x.n))).toNat) 0 = AV.ptr 900 0 0 := (hl 0).trans rfl
        have q1 : lrow 6703903964971298549787012499102923063739682910296196688861780721860882015036773488400937149083451713845015929093243025426876941405973284973216824503042048 2 (sgT m f ii x).M j (0 + ((IntKind.u64.wrap (avInt (f (0 + ii) 1))).tmod (IntKind.u64.wrap (Int.ofNat x.n))).toNat) 1 = AV.ptr 901 0 0 := (hl 1).trans rfl
        clear hl
        refine B.fam_norm (F := sgF) (s0 := sgU m f) (X := Nat × ST) (T := fun z => sgT m f z.1 z.2) (x := (ii, x)) (ii + 1, stDo x j (SO.mk 0 th e)) j true true (sg5_1 ..) (ob_cons rfl (ob_cons rfl (ob_cons rfl (ob_cons rfl (ob_cons rfl (ob_cons rfl (ob_cons ?_ (ob_cons rfl (ob_cons rfl (ob_cons ?_ (ob_cons rfl (ob_cons ?_ (ob_cons ?_ (ob_cons ?_ (ob_cons ?_ (ob_cons ?_ (ob_cons rfl (ob_cons ?_ (ob_cons ?_ (ob_cons rfl (ob_cons ?_ (ob_cons ?_ (ob_cons rfl (ob_cons rfl (ob_cons rfl (ob_cons rfl (ob_cons rfl (ob_cons (Nat.le_refl _) (ob_cons (.inl ⟨rfl, rfl⟩) (ob_cons ?_ (ob_cons ?_ (ob_cons ?_ (ob_cons ?_ (ob_cons ?_ (ob_cons ?_ (ob_cons ?_ (ob_cons ?_ (ob_cons ?_ (ob_cons rfl (ob_cons ?_ (ob_cons rfl (ob_cons ?_ (ob_cons ?_ (ob_cons ?_ (ob_cons ?_ (ob_cons ?_ (ob_cons ?_ (ob_cons ?_ (ob_cons ?_ (ob_cons rfl (ob_cons ?_ (ob_cons ?_ (ob_cons ?_ (ob_cons ?_ (ob_cons ?_ (ob_cons ?_ (ob_cons ?_ (ob_cons ?_ (ob_cons ?_ (ob_cons ?_ (ob_cons ?_ (ob_cons ?_ (ob_cons ?_ (ob_cons ?_ (ob_cons ?_ (ob_cons ?_ (ob_cons ?_ (ob_cons ?_ (ob_cons ?_ (ob_cons ?_ (ob_cons ?_ (ob_cons ?_ ob_nil)))))))))))))))))))))))))))))))))))))))))))))))))))))))))))))))))))))))) (fun _ => hjn) (by show sMb (x.O j) = _; rw [ho]) hok (by show m - (ii + 1) < m - ii; omega) (by show sMb (if j = j then _ else _) = _; rw [if_pos rfl]) (.inl ⟨rfl, hjn⟩) (fun i hi hne => ⟨hi, (by show sMb (if i = j then _ else _) = sMb _; rw [if_neg hne])⟩)
        · exact rfl
        · exact rfl
        · assumption
        · exact rfl
        · exact rfl
        · exact rfl
        · exact rfl
        · exact Nat.le_refl _
        · exact sg_do (x := x) rfl rfl ho
        · exact Nat.le_refl _
        · exact sg_do2 (x := x) rfl rfl ho
        · exact rfl
        · exact rfl
        · exact rfl
        · exact rfl
        · exact rfl
        · exact rfl
        · exact rfl
        · exact rfl
        · exact fun _ => rfl
        · exact rfl
        · exact rfl
        · exact rfl
        · exact rfl
        · exact rfl
        · exact rfl
        · exact rfl
        · exact rfl
        · exact rfl
        · exact Nat.le_refl _
        · exact .inl ⟨rfl, rfl⟩
        · assumption
        · assumption
        · assumption
        · assumption
        · assumption
        · assumption
        · assumption
        · assumption
        · assumption
        · assumption
        · assumption
        · assumption
        · assumption
        · assumption
        · (simp [Nat.blt_eq]; omega)
        · exact eqF hk1
        · exact eqF hk0
        · (simp [Nat.blt_eq]; omega)
        · (simp [Nat.blt_eq]; omega)
        · (simp [Nat.blt_eq]; omega)
      | 1, ho, hl, hoo, hok, hbS =>
        have q0 : lrow 6703903964971298549787012499102923063739682910296196688861780721860882015036773488400937149083451713845015929093243025426876941405973284973216824503042048 2 (sgT m f ii x).M j (0 + ((IntKind.u64.wrap (avInt (f (0 + ii) 1))).tmod (IntKind.u64.wrap (Int.ofNat x.n))).toNat) 0 = AV.ptr 900 0 0 := (hl 0).trans rfl
        have q1 : lrow 6703903964971298549787012499102923063739682910296196688861780721860882015036773488400937149083451713845015929093243025426876941405973284973216824503042048 2 (sgT m f ii x).M j (0 + ((IntKind.u64.wrap (avInt (f (0 + ii) 1))).tmod (IntKind.u64.wrap (Int.ofNat x.n))).toNat) 1 = AV.ptr 901 0 0 := (hl 1).trans rfl
        clear hl
        refine B.fam_norm (F := sgF) (s0 := sgU m f) (X := Nat × ST) (T := fun z => sgT m f z.1 z.2) (x := (ii, x)) (ii + 1, stDo x j (SO.mk 1 th e)) j true true (sg6_1 ..) (ob_cons rfl (ob_cons rfl (ob_cons rfl (ob_cons rfl (ob_cons rfl (ob_cons rfl (ob_cons ?_ (ob_cons rfl (ob_cons rfl (ob_cons ?_ (ob_cons rfl (ob_cons ?_ (ob_cons ?_ (ob_cons ?_ (ob_cons ?_ (ob_cons ?_ (ob_cons rfl (ob_cons ?_ (ob_cons ?_ (ob_cons rfl (ob_cons ?_ (ob_cons ?_ (ob_cons rfl (ob_cons rfl (ob_cons rfl (ob_cons rfl (ob_cons rfl (ob_cons (Nat.le_refl _) (ob_cons (.inl ⟨rfl, rfl⟩) (ob_cons ?_ (ob_cons rfl (ob_cons rfl (ob_cons ?_ (ob_cons rfl (ob_cons ?_ (ob_cons ?_ (ob_cons ?_ (ob_cons ?_ (ob_cons rfl (ob_cons ?_ (ob_cons rfl (ob_cons ?_ (ob_cons rfl (ob_cons rfl (ob_cons ?_ (ob_cons rfl (ob_cons ?_ (ob_cons ?_ (ob_cons ?_ (ob_cons rfl (ob_cons ?_ (ob_cons ?_ (ob_cons ?_ (ob_cons ?_ (ob_cons ?_ (ob_cons ?_ (ob_cons (by decide) (ob_cons ?_ (ob_cons ?_ (ob_cons ?_ (ob_cons ?_ (ob_cons ?_ (ob_cons ?_ (ob_cons (Nat.le_refl _) (ob_cons ?_ (ob_cons (by decide) (ob_cons ?_ (ob_cons ?_ (ob_cons ?_ (ob_cons ?_ (ob_cons ?_ (ob_cons ?_ (ob_cons ?_ (ob_cons ?_ (ob_cons ?_ (ob_cons ?_ ob_nil)))))))))))))))))))))))))))))))))))))))))))))))))))))))))))))))))))))))))))) (fun _ => hjn) (by show sMb (x.O j) = _; rw [ho]) hok (by show m - (ii + 1) < m - ii; omega) (by show sMb (if j = j then _ else _) = _; rw [if_pos rfl]) (.inl ⟨rfl, hjn⟩) (fun i hi hne => ⟨hi, (by show sMb (if i = j then _ else _) = sMb _; rw [if_neg hne])⟩)
        · exact rfl
        · exact rfl
        · assumption
        · exact rfl
        · exact rfl
        · exact rfl
        · exact rfl
        · exact Nat.le_refl _
        · exact sg_do (x := x) rfl rfl ho
        · exact Nat.le_refl _
        · exact sg_do2 (x := x) rfl rfl ho
        · exact rfl
        · exact rfl
        · exact rfl
        · exact rfl
        · exact rfl
        · exact fun _ => rfl
        · exact rfl
        · exact rfl
        · exact rfl
        · exact rfl
        · exact rfl
        · exact rfl
        · exact Nat.le_refl _
        · exact .inl ⟨rfl, rfl⟩
        · assumption
        · assumption
        · assumption
        · assumption
        · assumption
        · assumption
        · assumption
        · assumption
        · assumption
        · assumption
        · (simp [Nat.blt_eq]; omega)
        · assumption
        · assumption
        · assumption
        · assumption
        · (simp [Nat.blt_eq]; omega)
        · exact eqF hk1
        · exact eqF hk0
        · (simp [Nat.blt_eq]; omega)
        · (simp [Nat.blt_eq]; omega)
        · (simp [Nat.blt_eq]; omega)
      | 2, ho, hl, hoo, hok, hbS =>
        have q0 : lrow 6703903964971298549787012499102923063739682910296196688861780721860882015036773488400937149083451713845015929093243025426876941405973284973216824503042048 2 (sgT m f ii x).M j (0 + ((IntKind.u64.wrap (avInt (f (0 + ii) 1))).tmod (IntKind.u64.wrap (Int.ofNat x.n))).toNat) 0 = AV.ptr 900 0 0 := (hl 0).trans rfl
        have q1 : lrow 6703903964971298549787012499102923063739682910296196688861780721860882015036773488400937149083451713845015929093243025426876941405973284973216824503042048 2 (sgT m f ii x).M j (0 + ((IntKind.u64.wrap (avInt (f (0 + ii) 1))).tmod (IntKind.u64.wrap (Int.ofNat x.n))).toNat) 1 = AV.ptr 901 0 0 := (hl 1).trans rfl
        clear hl
        refine B.fam_norm (F := sgF) (s0 := sgU m f) (X := Nat × ST) (T := fun z => sgT m f z.1 z.2) (x := (ii, x)) (ii + 1, stDo x j (SO.mk 2 th e)) j true true (sg7_1 ..) (ob_cons rfl (ob_cons rfl (ob_cons rfl (ob_cons rfl (ob_cons rfl (ob_cons rfl (ob_cons ?_ (ob_cons rfl (ob_cons rfl (ob_cons ?_ (ob_cons rfl (ob_cons ?_ (ob_cons ?_ (ob_cons ?_ (ob_cons ?_ (ob_cons ?_ (ob_cons rfl (ob_cons ?_ (ob_cons ?_ (ob_cons rfl (ob_cons ?_ (ob_cons ?_ (ob_cons rfl (ob_cons rfl (ob_cons rfl (ob_cons rfl (ob_cons rfl (ob_cons (Nat.le_refl _) (ob_cons (.inl ⟨rfl, rfl⟩) (ob_cons ?_ (ob_cons rfl (ob_cons rfl (ob_cons rfl (ob_cons rfl (ob_cons ?_ (ob_cons ?_ (ob_cons ?_ (ob_cons ?_ (ob_cons rfl (ob_cons ?_ (ob_cons rfl (ob_cons ?_ (ob_cons rfl (ob_cons rfl (ob_cons rfl (ob_cons rfl (ob_cons ?_ (ob_cons ?_ (ob_cons ?_ (ob_cons rfl (ob_cons ?_ (ob_cons ?_ (ob_cons ?_ (ob_cons ?_ (ob_cons ?_ (ob_cons ?_ (ob_cons ?_ (ob_cons ?_ (ob_cons ?_ (ob_cons ?_ (ob_cons ?_ (ob_cons ?_ (ob_cons (Nat.le_refl _) (ob_cons ?_ (ob_cons ?_ (ob_cons ?_ (ob_cons ?_ (ob_cons ?_ (ob_cons ?_ (ob_cons ?_ (ob_cons ?_ (ob_cons ?_ (ob_cons ?_ (ob_cons ?_ ob_nil)))))))))))))))))))))))))))))))))))))))))))))))))))))))))))))))))))))))))) (fun _ => hjn) (by show sMb (x.O j) = _; rw [ho]) hok (by show m - (ii + 1) < m - ii; omega) (by show sMb (if j = j then _ else _) = _; rw [if_pos rfl]) (.inl ⟨rfl, hjn⟩) (fun i hi hne => ⟨hi, (by show sMb (if i = j then _ else _) = sMb _; rw [if_neg hne])⟩)
        · exact rfl
        · exact rfl
        · assumption
        · exact rfl
        · exact rfl
        · exact rfl
        · exact (hb.agr _ _ _).symm
        · exact Nat.le_refl _
        · exact sg_do (x := x) rfl rfl ho
        · exact Nat.le_refl _
        · exact sg_do2 (x := x) rfl rfl ho
        · exact rfl
        · exact rfl
        · exact rfl
        · exact rfl
        · exact fun _ => rfl
        · exact rfl
        · exact rfl
        · exact rfl
        · exact rfl
        · exact rfl
        · exact Nat.le_refl _
        · exact .inl ⟨rfl, rfl⟩
        · assumption
        · assumption
        · assumption
        · assumption
        · assumption
        · assumption
        · assumption
        · assumption
        · assumption
        · assumption
        · (simp [Nat.blt_eq]; omega)
        · assumption
        · assumption
        · assumption
        · assumption
        · (simp [Nat.blt_eq]; omega)
        · exact eqF hk1
        · exact eqF hk0
        · (simp [Nat.blt_eq]; omega)
        · (simp [Nat.blt_eq]; omega)
        · (simp [Nat.blt_eq]; omega)
      | 3, ho, hl, hoo, hok, hbS =>
        have q0 : lrow 6703903964971298549787012499102923063739682910296196688861780721860882015036773488400937149083451713845015929093243025426876941405973284973216824503042048 2 (sgT m f ii x).M j (0 + ((IntKind.u64.wrap (avInt (f (0 + ii) 1))).tmod (IntKind.u64.wrap (Int.ofNat x.n))).toNat) 0 = AV.ptr 900 0 0 := (hl 0).trans rfl
        have q1 : lrow 6703903964971298549787012499102923063739682910296196688861780721860882015036773488400937149083451713845015929093243025426876941405973284973216824503042048 2 (sgT m f ii x).M j (0 + ((IntKind.u64.wrap (avInt (f (0 + ii) 1))).tmod (IntKind.u64.wrap (Int.ofNat x.n))).toNat) 1 = AV.ptr 901 0 0 := (hl 1).trans rfl
        clear hl
        refine B.fam_norm (F := sgF) (s0 := sgU m f) (X := Nat × ST) (T := fun z => sgT m f z.1 z.2) (x := (ii, x)) (ii + 1, stDo x j (SO.mk 3 th e)) j true true (sg8_1 ..) (ob_cons rfl (ob_cons rfl (ob_cons rfl (ob_cons rfl (ob_cons rfl (ob_cons rfl (ob_cons ?_ (ob_cons rfl (ob_cons rfl (ob_cons ?_ (ob_cons rfl (ob_cons ?_ (ob_cons ?_ (ob_cons ?_ (ob_cons ?_ (ob_cons ?_ (ob_cons rfl (ob_cons ?_ (ob_cons ?_ (ob_cons rfl (ob_cons ?_ (ob_cons ?_ (ob_cons rfl (ob_cons rfl (ob_cons rfl (ob_cons rfl (ob_cons rfl (ob_cons (Nat.le_refl _) (ob_cons (.inl ⟨rfl, rfl⟩) (ob_cons ?_ (ob_cons rfl (ob_cons rfl (ob_cons ?_ (ob_cons rfl (ob_cons ?_ (ob_cons ?_ (ob_cons ?_ (ob_cons ?_ (ob_cons rfl (ob_cons ?_ (ob_cons rfl (ob_cons ?_ (ob_cons rfl (ob_cons rfl (ob_cons ?_ (ob_cons rfl (ob_cons ?_ (ob_cons ?_ (ob_cons ?_ (ob_cons rfl (ob_cons ?_ (ob_cons ?_ (ob_cons ?_ (ob_cons ?_ (ob_cons ?_ (ob_cons ?_ (ob_cons (by decide) (ob_cons ?_ (ob_cons ?_ (ob_cons ?_ (ob_cons ?_ (ob_cons ?_ (ob_cons ?_ (ob_cons (Nat.le_refl _) (ob_cons ?_ (ob_cons (by decide) (ob_cons ?_ (ob_cons ?_ (ob_cons ?_ (ob_cons ?_ (ob_cons ?_ (ob_cons ?_ (ob_cons ?_ (ob_cons ?_ (ob_cons ?_ (ob_cons ?_ ob_nil)))))))))))))))))))))))))))))))))))))))))))))))))))))))))))))))))))))))))))) (fun _ => hjn) (by show sMb (x.O j) = _; rw [ho]) hok (by show m - (ii + 1) < m - ii; omega) (by show sMb (if j = j then _ else _) = _; rw [if_pos rfl]) (.inl ⟨rfl, hjn⟩) (fun i hi hne => ⟨hi, (by show sMb (if i = j then _ else _) = sMb _; rw [if_neg hne])⟩)
        · exact rfl
        · exact rfl
        · assumption
        · exact rfl
        · exact rfl
        · exact rfl
        · exact rfl
        · exact Nat.le_refl _
        · exact sg_do (x := x) rfl rfl ho
        · exact Nat.le_refl _
        · exact sg_do2 (x := x) rfl rfl ho
        · exact rfl
        · exact rfl
        · exact rfl
        · exact rfl
        · exact rfl
        · exact fun _ => rfl
        · exact rfl
        · exact rfl
        · exact rfl
        · exact rfl
        · exact rfl
        · exact rfl
        · exact Nat.le_refl _
        · exact .inl ⟨rfl, rfl⟩
        · assumption
        · assumption
        · assumption
        · assumption
        · assumption
        · assumption
        · assumption
        · assumption
        · assumption
        · assumption
        · (simp [Nat.blt_eq]; omega)
        · assumption
        · assumption
        · assumption
        · assumption
        · (simp [Nat.blt_eq]; omega)
        · exact eqF hk1
        · exact eqF hk0
        · (simp [Nat.blt_eq]; omega)
        · (simp [Nat.blt_eq]; omega)
        · (simp [Nat.blt_eq]; omega)
      | 4, ho, hl, hoo, hok, hbS =>
        have q0 : lrow 6703903964971298549787012499102923063739682910296196688861780721860882015036773488400937149083451713845015929093243025426876941405973284973216824503042048 2 (sgT m f ii x).M j (0 + ((IntKind.u64.wrap (avInt (f (0 + ii) 1))).tmod (IntKind.u64.wrap (Int.ofNat x.n))).toNat) 0 = AV.ptr 900 0 0 := (hl 0).trans rfl
        have q1 : lrow 6703903964971298549787012499102923063739682910296196688861780721860882015036773488400937149083451713845015929093243025426876941405973284973216824503042048 2 (sgT m f ii x).M j (0 + ((IntKind.u64.wrap (avInt (f (0 + ii) 1))).tmod (IntKind.u64.wrap (Int.ofNat x.n))).toNat) 1 = AV.ptr 901 0 0 := (hl 1).trans rfl
        clear hl
        refine B.fam_norm (F := sgF) (s0 := sgU m f) (X := Nat × ST) (T := fun z => sgT m f z.1 z.2) (x := (ii, x)) (ii + 1, stDo x j (SO.mk 4 th e)) j true true (sg9_1 ..) (ob_cons rfl (ob_cons rfl (ob_cons rfl (ob_cons rfl (ob_cons rfl (ob_cons rfl (ob_cons ?_ (ob_cons rfl (ob_cons rfl (ob_cons ?_ (ob_cons rfl (ob_cons ?_ (ob_cons ?_ (ob_cons ?_ (ob_cons ?_ (ob_cons ?_ (ob_cons rfl (ob_cons ?_ (ob_cons ?_ (ob_cons rfl (ob_cons ?_ (ob_cons ?_ (ob_cons rfl (ob_cons rfl (ob_cons rfl (ob_cons rfl (ob_cons rfl (ob_cons (Nat.le_refl _) (ob_cons (.inl ⟨rfl, rfl⟩) (ob_cons ?_ (ob_cons rfl (ob_cons rfl (ob_cons rfl (ob_cons rfl (ob_cons ?_ (ob_cons ?_ (ob_cons ?_ (ob_cons ?_ (ob_cons rfl (ob_cons ?_ (ob_cons rfl (ob_cons ?_ (ob_cons rfl (ob_cons rfl (ob_cons rfl (ob_cons rfl (ob_cons ?_ (ob_cons ?_ (ob_cons ?_ (ob_cons rfl (ob_cons ?_ (ob_cons ?_ (ob_cons ?_ (ob_cons ?_ (ob_cons ?_ (ob_cons ?_ (ob_cons (by decide) (ob_cons ?_ (ob_cons ?_ (ob_cons ?_ (ob_cons ?_ (ob_cons ?_ (ob_cons ?_ (ob_cons (Nat.le_refl _) (ob_cons ?_ (ob_cons (by decide) (ob_cons ?_ (ob_cons ?_ (ob_cons ?_ (ob_cons ?_ (ob_cons ?_ (ob_cons ?_ (ob_cons ?_ (ob_cons ?_ (ob_cons ?_ (ob_cons ?_ ob_nil)))))))))))))))))))))))))))))))))))))))))))))))))))))))))))))))))))))))))))) (fun _ => hjn) (by show sMb (x.O j) = _; rw [ho]) hok (by show m - (ii + 1) < m - ii; omega) (by show sMb (if j = j then _ else _) = _; rw [if_pos rfl]) (.inl ⟨rfl, hjn⟩) (fun i hi hne => ⟨hi, (by show sMb (if i = j then _ else _) = sMb _; rw [if_neg hne])⟩)
        · exact rfl
        · exact rfl
        · assumption
        · exact rfl
        · exact rfl
        · exact rfl
        · exact rfl
        · exact Nat.le_refl _
        · exact sg_do (x := x) rfl rfl ho
        · exact Nat.le_refl _
        · exact sg_do2 (x := x) rfl rfl ho
        · exact rfl
        · exact rfl
        · exact rfl
        · exact rfl
        · exact fun _ => rfl
        · exact rfl
        · exact rfl
        · exact rfl
        · exact rfl
        · exact rfl
        · exact Nat.le_refl _
        · exact .inl ⟨rfl, rfl⟩
        · assumption
        · assumption
        · assumption
        · assumption
        · assumption
        · assumption
        · assumption
        · assumption
        · assumption
        · assumption
        · (simp [Nat.blt_eq]; omega)
        · assumption
        · assumption
        · assumption
        · assumption
        · (simp [Nat.blt_eq]; omega)
        · exact eqF hk1
        · exact eqF hk0
        · (simp [Nat.blt_eq]; omega)
        · (simp [Nat.blt_eq]; omega)
        · (simp [Nat.blt_eq]; omega)
      | k + 5, ho, hl, hoo, hok, hbS => exact absurd hoo (by show ¬ k + 5 ≤ 4; omega)
    · obtain rfl : m = ii := by omega
      rw [← hx]
      refine B.fam_exit (F := sgF) (s0 := sgU m f) (X := Nat × ST) (T := fun z => sgT m f z.1 z.2) (x := (m, x)) x.n false (sge_1 ..) (by simp) (ob_cons rfl (ob_cons rfl (ob_cons rfl (ob_cons rfl (ob_cons rfl (ob_cons rfl (ob_cons rfl (ob_cons rfl (ob_cons rfl (ob_cons rfl (ob_cons (Nat.le_refl _) (ob_cons (.inl ⟨rfl, rfl⟩) (ob_cons rfl (ob_cons rfl (ob_cons rfl (ob_cons rfl (ob_cons rfl (ob_cons rfl (ob_cons rfl (ob_cons rfl (ob_cons (fun _ => rfl) (ob_cons rfl (ob_cons rfl (ob_cons rfl (ob_cons rfl (ob_cons rfl (ob_cons rfl (ob_cons rfl (ob_cons rfl (ob_cons rfl (ob_cons rfl (ob_cons rfl (ob_cons rfl (ob_cons (Nat.le_refl _) (ob_cons (.inl ⟨rfl, rfl⟩) (ob_cons ?_ ob_nil)))))))))))))))))))))))))))))))))))) (fun h => by cases h) rfl
      · (simp; done)
end Go.Proofs.Ytephpkfajobhmaa
