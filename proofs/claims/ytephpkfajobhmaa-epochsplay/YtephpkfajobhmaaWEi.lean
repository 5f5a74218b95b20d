/-
  EpochsPlay: its loop.
-/
import Derived.Test.YtephpkfajobhmaaWEgDef
set_option linter.unusedSimpArgs false
set_option linter.unusedVariables false
namespace Go.Proofs.Ytephpkfajobhmaa
open Go.Ev
theorem eg0_1 (m : Nat) (f : Nat → Nat → AV) (q : Nat) (h : Nat → Nat → AV) (ii : Nat) (x : ET) : roundB EEg 3000 egL (h0F egF (egU m f q h)) [(8, Src.nm 1022934564967544334379121780258624735067700639388457746713528552530041811376460798401021903851845049109652088789862522190380392670589185329165164872671), (9, Src.nm 9), (900, Src.nm 306880369490263300313736534077587420520310191816537324014058565759012543412938239520306571155553514732895626636958756657114117801176755598749549462502), (901, Src.nm 716054195477281034065385246181037314547390447571920422699469986771029267963522558880715332696291534376756462152903765533266274869412429730415615411170)] (locSt egF (egT m f ii x) false (eMb (x.O x.n)) x.n []) [Hint.b true, Hint.l 0] (locSt egF (egT m f (ii + 1) (etAdd x (eNew 0 (avInt (f (0 + ii) 1))))) true (eMb (eNew 0 (avInt (f (0 + ii) 1)))) x.n []) =
 some (Ex.norm, [(0 : Nat) = 0,
 m = m,
 (none : Option Nat) = none,
 (0 : Nat) = 0,
 (0 : Nat) = 0,
 (0 : Nat) = 0,
 x.n + 1 = (etAdd x (eNew 0 (avInt (f (0 + ii) 1)))).n,
 (none : Option Nat) = none,
 IntKind.i64.wrap (Int.ofNat ii + 1) = Int.ofNat (ii + 1),
 inT (avInt (f (0 + ii) 1)) = (eNew 0 (avInt (f (0 + ii) 1))).at_,
 (0 : Int) = 0,
 avInt (f (0 + ii) 1) = (eNew 0 (avInt (f (0 + ii) 1))).th,
 (0 : Int) = 0,
 nT 0 (avInt (f (0 + ii) 1)) = (eNew 0 (avInt (f (0 + ii) 1))).t2,
 nL 0 (avInt (f (0 + ii) 1)) = ln0 (eNew 0 (avInt (f (0 + ii) 1))).at_,
 false = (eNew 0 (avInt (f (0 + ii) 1))).mv,
 (0 : Int) = 0,
 (0 : Int) = 0,
 false = false,
 (egT m f (ii + 1) (etAdd x (eNew 0 (avInt (f (0 + ii) 1))))).n ≤ x.n + 1,
 ∀ (i : Nat), i < (egT m f (ii + 1) (etAdd x (eNew 0 (avInt (f (0 + ii) 1))))).n → rowV (CM.mk 8 6703903964971298549787012499102923063739682910296196688861780721860882015036773488400937149083451713845015929093243025426876941405973284973216824503042048 [(8, Src.nm 1022934564967544334379121780258624735067700639388457746713528552530041811376460798401021903851845049109652088789862522190380392670589185329165164872671), (9, Src.nm 9), (900, Src.nm 306880369490263300313736534077587420520310191816537324014058565759012543412938239520306571155553514732895626636958756657114117801176755598749549462502), (901, Src.nm 716054195477281034065385246181037314547390447571920422699469986771029267963522558880715332696291534376756462152903765533266274869412429730415615411170)]) egF.sh 0 (fun j => if i < x.n then lrow 6703903964971298549787012499102923063739682910296196688861780721860882015036773488400937149083451713845015929093243025426876941405973284973216824503042048 2 (egT m f ii x).M x.n (0 + i) j else rowsOf 4 [AV.ptr 306880369490263300313736534077587420520310191816537324014058565759012543412938239520306571155553514732895626636958756657114117801176755598749549462502 0 0, cellOf (Value.pointer none), cellOf (Value.pointer none), AV.ptr 716054195477281034065385246181037314547390447571920422699469986771029267963522558880715332696291534376756462152903765533266274869412429730415615411170 0 0] (i - x.n) j) (lrow 6703903964971298549787012499102923063739682910296196688861780721860882015036773488400937149083451713845015929093243025426876941405973284973216824503042048 2 (egT m f (ii + 1) (etAdd x (eNew 0 (avInt (f (0 + ii) 1))))).M x.n i),
 (0 : Nat) = 0,
 (0 : Nat) = 0,
 (0 : Nat) = 0,
 (0 : Nat) = 0,
 true = true,
 m ≤ m,
 f = f ∧ plainSh acSh = true ∨ ∀ (i : Nat), i < m → rowOb acSh 0 (f i) (f i),
 x.S.st = (etAdd x (eNew 0 (avInt (f (0 + ii) 1)))).S.st,
 x.S.L.c = (etAdd x (eNew 0 (avInt (f (0 + ii) 1)))).S.L.c,
 x.S.L.k = (etAdd x (eNew 0 (avInt (f (0 + ii) 1)))).S.L.k,
 x.S.L.a = (etAdd x (eNew 0 (avInt (f (0 + ii) 1)))).S.L.a,
 x.S.L.f = (etAdd x (eNew 0 (avInt (f (0 + ii) 1)))).S.L.f,
 x.S.L.w = (etAdd x (eNew 0 (avInt (f (0 + ii) 1)))).S.L.w,
 x.S.L.i = (etAdd x (eNew 0 (avInt (f (0 + ii) 1)))).S.L.i,
 x.S.L.d = (etAdd x (eNew 0 (avInt (f (0 + ii) 1)))).S.L.d,
 ∀ (k : List Int), x.S.M k = (etAdd x (eNew 0 (avInt (f (0 + ii) 1)))).S.M k,
 (0 : Nat) = 0,
 x.R.D.n = (etAdd x (eNew 0 (avInt (f (0 + ii) 1)))).R.D.n,
 (none : Option Nat) = none,
 x.R.st = (etAdd x (eNew 0 (avInt (f (0 + ii) 1)))).R.st,
 x.R.L.c = (etAdd x (eNew 0 (avInt (f (0 + ii) 1)))).R.L.c,
 x.R.L.k = (etAdd x (eNew 0 (avInt (f (0 + ii) 1)))).R.L.k,
 x.R.L.a = (etAdd x (eNew 0 (avInt (f (0 + ii) 1)))).R.L.a,
 x.R.L.f = (etAdd x (eNew 0 (avInt (f (0 + ii) 1)))).R.L.f,
 x.R.L.w = (etAdd x (eNew 0 (avInt (f (0 + ii) 1)))).R.L.w,
 x.R.L.i = (etAdd x (eNew 0 (avInt (f (0 + ii) 1)))).R.L.i,
 x.R.L.d = (etAdd x (eNew 0 (avInt (f (0 + ii) 1)))).R.L.d,
 false = false,
 (etAdd x (eNew 0 (avInt (f (0 + ii) 1)))).R.D.n ≤ x.R.D.n,
 wdF (etAdd x (eNew 0 (avInt (f (0 + ii) 1)))).R.D.W = wdF x.R.D.W ∧ plainSh wSh = true ∨ ∀ (i : Nat), i < (etAdd x (eNew 0 (avInt (f (0 + ii) 1)))).R.D.n → rowOb wSh 0 (wdF x.R.D.W i) (wdF (etAdd x (eNew 0 (avInt (f (0 + ii) 1)))).R.D.W i),
 Both x.S x.R,
 ((x.n + 1) * 32).ble 70368744177664 = true,
 (0 + x.n).ble (egT m f ii x).n = true,
 (IntKind.i64.wrap (avInt (f (0 + ii) 0))).tmod 8 = 0,
 (0 + ii).blt m = true,
 (ii.blt m && decide (0 ≤ Int.ofNat ii)) = true,
 decide (Int.ofNat ii < Int.ofNat m) = true]) := by kernel_rfl
theorem eg1_1 (m : Nat) (f : Nat → Nat → AV) (q : Nat) (h : Nat → Nat → AV) (ii : Nat) (x : ET) : roundB EEg 3000 egL (h0F egF (egU m f q h)) [(8, Src.nm 1022934564967544334379121780258624735067700639388457746713528552530041811376460798401021903851845049109652088789862522190380392670589185329165164872671), (9, Src.nm 9), (900, Src.nm 306880369490263300313736534077587420520310191816537324014058565759012543412938239520306571155553514732895626636958756657114117801176755598749549462502), (901, Src.nm 716054195477281034065385246181037314547390447571920422699469986771029267963522558880715332696291534376756462152903765533266274869412429730415615411170)] (locSt egF (egT m f ii x) false (eMb (x.O x.n)) x.n []) [Hint.b true, Hint.l 1] (locSt egF (egT m f (ii + 1) (etAdd x (eNew 1 (avInt (f (0 + ii) 1))))) true (eMb (eNew 1 (avInt (f (0 + ii) 1)))) x.n []) =
 some (Ex.norm, [(0 : Nat) = 0,
 m = m,
 (none : Option Nat) = none,
 (0 : Nat) = 0,
 (0 : Nat) = 0,
 (0 : Nat) = 0,
 x.n + 1 = (etAdd x (eNew 1 (avInt (f (0 + ii) 1)))).n,
 (none : Option Nat) = none,
 IntKind.i64.wrap (Int.ofNat ii + 1) = Int.ofNat (ii + 1),
 inT (avInt (f (0 + ii) 1)) = (eNew 1 (avInt (f (0 + ii) 1))).at_,
 (0 : Int) = 0,
 avInt (f (0 + ii) 1) = (eNew 1 (avInt (f (0 + ii) 1))).th,
 (1 : Int) = 1,
 nT 1 (avInt (f (0 + ii) 1)) = (eNew 1 (avInt (f (0 + ii) 1))).t2,
 nL 1 (avInt (f (0 + ii) 1)) = (eNew 1 (avInt (f (0 + ii) 1))).at_,
 false = (eNew 1 (avInt (f (0 + ii) 1))).mv,
 (0 : Int) = 0,
 (0 : Int) = 0,
 false = false,
 (egT m f (ii + 1) (etAdd x (eNew 1 (avInt (f (0 + ii) 1))))).n ≤ x.n + 1,
 ∀ (i : Nat), i < (egT m f (ii + 1) (etAdd x (eNew 1 (avInt (f (0 + ii) 1))))).n → rowV (CM.mk 8 6703903964971298549787012499102923063739682910296196688861780721860882015036773488400937149083451713845015929093243025426876941405973284973216824503042048 [(8, Src.nm 1022934564967544334379121780258624735067700639388457746713528552530041811376460798401021903851845049109652088789862522190380392670589185329165164872671), (9, Src.nm 9), (900, Src.nm 306880369490263300313736534077587420520310191816537324014058565759012543412938239520306571155553514732895626636958756657114117801176755598749549462502), (901, Src.nm 716054195477281034065385246181037314547390447571920422699469986771029267963522558880715332696291534376756462152903765533266274869412429730415615411170)]) egF.sh 0 (fun j => if i < x.n then lrow 6703903964971298549787012499102923063739682910296196688861780721860882015036773488400937149083451713845015929093243025426876941405973284973216824503042048 2 (egT m f ii x).M x.n (0 + i) j else rowsOf 4 [cellOf (Value.pointer none), AV.ptr 306880369490263300313736534077587420520310191816537324014058565759012543412938239520306571155553514732895626636958756657114117801176755598749549462502 0 0, cellOf (Value.pointer none), AV.ptr 716054195477281034065385246181037314547390447571920422699469986771029267963522558880715332696291534376756462152903765533266274869412429730415615411170 0 0] (i - x.n) j) (lrow 6703903964971298549787012499102923063739682910296196688861780721860882015036773488400937149083451713845015929093243025426876941405973284973216824503042048 2 (egT m f (ii + 1) (etAdd x (eNew 1 (avInt (f (0 + ii) 1))))).M x.n i),
 (0 : Nat) = 0,
 (0 : Nat) = 0,
 (0 : Nat) = 0,
 (0 : Nat) = 0,
 true = true,
 m ≤ m,
 f = f ∧ plainSh acSh = true ∨ ∀ (i : Nat), i < m → rowOb acSh 0 (f i) (f i),
 x.S.st = (etAdd x (eNew 1 (avInt (f (0 + ii) 1)))).S.st,
 x.S.L.c = (etAdd x (eNew 1 (avInt (f (0 + ii) 1)))).S.L.c,
 x.S.L.k = (etAdd x (eNew 1 (avInt (f (0 + ii) 1)))).S.L.k,
 x.S.L.a = (etAdd x (eNew 1 (avInt (f (0 + ii) 1)))).S.L.a,
 x.S.L.f = (etAdd x (eNew 1 (avInt (f (0 + ii) 1)))).S.L.f,
 x.S.L.w = (etAdd x (eNew 1 (avInt (f (0 + ii) 1)))).S.L.w,
 x.S.L.i = (etAdd x (eNew 1 (avInt (f (0 + ii) 1)))).S.L.i,
 x.S.L.d = (etAdd x (eNew 1 (avInt (f (0 + ii) 1)))).S.L.d,
 ∀ (k : List Int), x.S.M k = (etAdd x (eNew 1 (avInt (f (0 + ii) 1)))).S.M k,
 (0 : Nat) = 0,
 x.R.D.n = (etAdd x (eNew 1 (avInt (f (0 + ii) 1)))).R.D.n,
 (none : Option Nat) = none,
 x.R.st = (etAdd x (eNew 1 (avInt (f (0 + ii) 1)))).R.st,
 x.R.L.c = (etAdd x (eNew 1 (avInt (f (0 + ii) 1)))).R.L.c,
 x.R.L.k = (etAdd x (eNew 1 (avInt (f (0 + ii) 1)))).R.L.k,
 x.R.L.a = (etAdd x (eNew 1 (avInt (f (0 + ii) 1)))).R.L.a,
 x.R.L.f = (etAdd x (eNew 1 (avInt (f (0 + ii) 1)))).R.L.f,
 x.R.L.w = (etAdd x (eNew 1 (avInt (f (0 + ii) 1)))).R.L.w,
 x.R.L.i = (etAdd x (eNew 1 (avInt (f (0 + ii) 1)))).R.L.i,
 x.R.L.d = (etAdd x (eNew 1 (avInt (f (0 + ii) 1)))).R.L.d,
 false = false,
 (etAdd x (eNew 1 (avInt (f (0 + ii) 1)))).R.D.n ≤ x.R.D.n,
 wdF (etAdd x (eNew 1 (avInt (f (0 + ii) 1)))).R.D.W = wdF x.R.D.W ∧ plainSh wSh = true ∨ ∀ (i : Nat), i < (etAdd x (eNew 1 (avInt (f (0 + ii) 1)))).R.D.n → rowOb wSh 0 (wdF x.R.D.W i) (wdF (etAdd x (eNew 1 (avInt (f (0 + ii) 1)))).R.D.W i),
 Both x.S x.R,
 ((x.n + 1) * 32).ble 70368744177664 = true,
 (0 + x.n).ble (egT m f ii x).n = true,
 (IntKind.i64.wrap (avInt (f (0 + ii) 0))).tmod 8 = 1,
 (0 + ii).blt m = true,
 (ii.blt m && decide (0 ≤ Int.ofNat ii)) = true,
 decide (Int.ofNat ii < Int.ofNat m) = true]) := by kernel_rfl
theorem eg2_1 (m : Nat) (f : Nat → Nat → AV) (q : Nat) (h : Nat → Nat → AV) (ii : Nat) (x : ET) : roundB EEg 3000 egL (h0F egF (egU m f q h)) [(8, Src.nm 818347651974035467503297424206899788054160511510766197370822842024033449101168638720817523081476039287721671031890017752304314136471348263332131898337), (9, Src.nm 9), (900, Src.nm 102293456496754433437912178025862473506770063938845774671352855253004181137646079840102190385184504910965208878986252219038039267058918532916516488168), (901, Src.nm 511467282483772167189560890129312367533850319694228873356764276265020905688230399200510951925922524554826044394931261095190196335294592664582582436836)] (locSt egF (egT m f ii x) false (eMb (x.O x.n)) x.n []) [Hint.b true, Hint.l 2] (locSt egF (egT m f (ii + 1) (etAdd x (eNew 2 (avInt (f (0 + ii) 1))))) true (eMb (eNew 2 (avInt (f (0 + ii) 1)))) x.n []) =
 some (Ex.norm, [(0 : Nat) = 0,
 m = m,
 (none : Option Nat) = none,
 (0 : Nat) = 0,
 (0 : Nat) = 0,
 (0 : Nat) = 0,
 x.n + 1 = (etAdd x (eNew 2 (avInt (f (0 + ii) 1)))).n,
 (none : Option Nat) = none,
 IntKind.i64.wrap (Int.ofNat ii + 1) = Int.ofNat (ii + 1),
 (1 : Int) = 1,
 (0 : Int) = 0,
 (0 : Int) = 0,
 (0 : Int) = 0,
 false = (eNew 2 (avInt (f (0 + ii) 1))).mv,
 (2 : Int) = 2,
 (0 : Int) = 0,
 (1 : Int) = 1,
 false = (eNew 2 (avInt (f (0 + ii) 1))).mv,
 (0 : Int) = 0,
 (0 : Int) = 0,
 false = false,
 (egT m f (ii + 1) (etAdd x (eNew 2 (avInt (f (0 + ii) 1))))).n ≤ x.n + 1,
 ∀ (i : Nat), i < (egT m f (ii + 1) (etAdd x (eNew 2 (avInt (f (0 + ii) 1))))).n → rowV (CM.mk 8 6703903964971298549787012499102923063739682910296196688861780721860882015036773488400937149083451713845015929093243025426876941405973284973216824503042048 [(8, Src.nm 818347651974035467503297424206899788054160511510766197370822842024033449101168638720817523081476039287721671031890017752304314136471348263332131898337), (9, Src.nm 9), (900, Src.nm 102293456496754433437912178025862473506770063938845774671352855253004181137646079840102190385184504910965208878986252219038039267058918532916516488168), (901, Src.nm 511467282483772167189560890129312367533850319694228873356764276265020905688230399200510951925922524554826044394931261095190196335294592664582582436836)]) egF.sh 0 (fun j => if i < x.n then lrow 6703903964971298549787012499102923063739682910296196688861780721860882015036773488400937149083451713845015929093243025426876941405973284973216824503042048 2 (egT m f ii x).M x.n (0 + i) j else rowsOf 4 [cellOf (Value.pointer none), cellOf (Value.pointer none), AV.ptr 102293456496754433437912178025862473506770063938845774671352855253004181137646079840102190385184504910965208878986252219038039267058918532916516488168 0 0, AV.ptr 511467282483772167189560890129312367533850319694228873356764276265020905688230399200510951925922524554826044394931261095190196335294592664582582436836 0 0] (i - x.n) j) (lrow 6703903964971298549787012499102923063739682910296196688861780721860882015036773488400937149083451713845015929093243025426876941405973284973216824503042048 2 (egT m f (ii + 1) (etAdd x (eNew 2 (avInt (f (0 + ii) 1))))).M x.n i),
 (0 : Nat) = 0,
 (0 : Nat) = 0,
 (0 : Nat) = 0,
 (0 : Nat) = 0,
 true = true,
 m ≤ m,
 f = f ∧ plainSh acSh = true ∨ ∀ (i : Nat), i < m → rowOb acSh 0 (f i) (f i),
 x.S.st = (etAdd x (eNew 2 (avInt (f (0 + ii) 1)))).S.st,
 x.S.L.c = (etAdd x (eNew 2 (avInt (f (0 + ii) 1)))).S.L.c,
 x.S.L.k = (etAdd x (eNew 2 (avInt (f (0 + ii) 1)))).S.L.k,
 x.S.L.a = (etAdd x (eNew 2 (avInt (f (0 + ii) 1)))).S.L.a,
 x.S.L.f = (etAdd x (eNew 2 (avInt (f (0 + ii) 1)))).S.L.f,
 x.S.L.w = (etAdd x (eNew 2 (avInt (f (0 + ii) 1)))).S.L.w,
 x.S.L.i = (etAdd x (eNew 2 (avInt (f (0 + ii) 1)))).S.L.i,
 x.S.L.d = (etAdd x (eNew 2 (avInt (f (0 + ii) 1)))).S.L.d,
 ∀ (k : List Int), x.S.M k = (etAdd x (eNew 2 (avInt (f (0 + ii) 1)))).S.M k,
 (0 : Nat) = 0,
 x.R.D.n = (etAdd x (eNew 2 (avInt (f (0 + ii) 1)))).R.D.n,
 (none : Option Nat) = none,
 x.R.st = (etAdd x (eNew 2 (avInt (f (0 + ii) 1)))).R.st,
 x.R.L.c = (etAdd x (eNew 2 (avInt (f (0 + ii) 1)))).R.L.c,
 x.R.L.k = (etAdd x (eNew 2 (avInt (f (0 + ii) 1)))).R.L.k,
 x.R.L.a = (etAdd x (eNew 2 (avInt (f (0 + ii) 1)))).R.L.a,
 x.R.L.f = (etAdd x (eNew 2 (avInt (f (0 + ii) 1)))).R.L.f,
 x.R.L.w = (etAdd x (eNew 2 (avInt (f (0 + ii) 1)))).R.L.w,
 x.R.L.i = (etAdd x (eNew 2 (avInt (f (0 + ii) 1)))).R.L.i,
 x.R.L.d = (etAdd x (eNew 2 (avInt (f (0 + ii) 1)))).R.L.d,
 false = false,
 (etAdd x (eNew 2 (avInt (f (0 + ii) 1)))).R.D.n ≤ x.R.D.n,
 wdF (etAdd x (eNew 2 (avInt (f (0 + ii) 1)))).R.D.W = wdF x.R.D.W ∧ plainSh wSh = true ∨ ∀ (i : Nat), i < (etAdd x (eNew 2 (avInt (f (0 + ii) 1)))).R.D.n → rowOb wSh 0 (wdF x.R.D.W i) (wdF (etAdd x (eNew 2 (avInt (f (0 + ii) 1)))).R.D.W i),
 Both x.S x.R,
 ((x.n + 1) * 32).ble 70368744177664 = true,
 (0 + x.n).ble (egT m f ii x).n = true,
 (IntKind.i64.wrap (avInt (f (0 + ii) 0))).tmod 8 = 2,
 (0 + ii).blt m = true,
 (ii.blt m && decide (0 ≤ Int.ofNat ii)) = true,
 decide (Int.ofNat ii < Int.ofNat m) = true]) := by kernel_rfl
theorem eg3_1 (m : Nat) (f : Nat → Nat → AV) (q : Nat) (h : Nat → Nat → AV) (ii : Nat) (x : ET) : roundB EEg 3000 egL (h0F egF (egU m f q h)) [(8, Src.nm 8), (9, Src.nm 1001)] (locSt egF (egT m f ii x) false (eMb (x.O x.n)) x.n []) [Hint.b true, Hint.b false, Hint.b false, Hint.b false, Hint.b true] (locSt egF (egT m f (ii + 1) (ET.mk (mStore x.S (avInt (f (0 + ii) 2)) (avInt (f (0 + ii) 3)) (avInt (f (0 + ii) 4)) (avInt (f (0 + ii) 5))) (rStore x.R (avInt (f (0 + ii) 2)) (avInt (f (0 + ii) 3)) (avInt (f (0 + ii) 4)) (avInt (f (0 + ii) 5))) x.n x.O)) false (eMb (x.O x.n)) x.n []) =
 some (Ex.norm, [(0 : Nat) = 0,
 m = m,
 (none : Option Nat) = none,
 (0 : Nat) = 0,
 (0 : Nat) = 0,
 (0 : Nat) = 0,
 x.n = (ET.mk (mStore x.S (avInt (f (0 + ii) 2)) (avInt (f (0 + ii) 3)) (avInt (f (0 + ii) 4)) (avInt (f (0 + ii) 5))) (rStore x.R (avInt (f (0 + ii) 2)) (avInt (f (0 + ii) 3)) (avInt (f (0 + ii) 4)) (avInt (f (0 + ii) 5))) x.n x.O).n,
 (none : Option Nat) = none,
 IntKind.i64.wrap (Int.ofNat ii + 1) = Int.ofNat (ii + 1),
 false = false,
 (egT m f (ii + 1) (ET.mk (mStore x.S (avInt (f (0 + ii) 2)) (avInt (f (0 + ii) 3)) (avInt (f (0 + ii) 4)) (avInt (f (0 + ii) 5))) (rStore x.R (avInt (f (0 + ii) 2)) (avInt (f (0 + ii) 3)) (avInt (f (0 + ii) 4)) (avInt (f (0 + ii) 5))) x.n x.O)).n ≤ (egT m f ii x).n,
 ∀ (i : Nat), i < (egT m f (ii + 1) (ET.mk (mStore x.S (avInt (f (0 + ii) 2)) (avInt (f (0 + ii) 3)) (avInt (f (0 + ii) 4)) (avInt (f (0 + ii) 5))) (rStore x.R (avInt (f (0 + ii) 2)) (avInt (f (0 + ii) 3)) (avInt (f (0 + ii) 4)) (avInt (f (0 + ii) 5))) x.n x.O)).n → rowV (CM.mk 8 6703903964971298549787012499102923063739682910296196688861780721860882015036773488400937149083451713845015929093243025426876941405973284973216824503042048 [(8, Src.nm 8), (9, Src.nm 1001)]) egF.sh 0 (lrow 6703903964971298549787012499102923063739682910296196688861780721860882015036773488400937149083451713845015929093243025426876941405973284973216824503042048 2 (egT m f ii x).M x.n i) (lrow 6703903964971298549787012499102923063739682910296196688861780721860882015036773488400937149083451713845015929093243025426876941405973284973216824503042048 2 (egT m f (ii + 1) (ET.mk (mStore x.S (avInt (f (0 + ii) 2)) (avInt (f (0 + ii) 3)) (avInt (f (0 + ii) 4)) (avInt (f (0 + ii) 5))) (rStore x.R (avInt (f (0 + ii) 2)) (avInt (f (0 + ii) 3)) (avInt (f (0 + ii) 4)) (avInt (f (0 + ii) 5))) x.n x.O)).M x.n i),
 (0 : Nat) = 0,
 (0 : Nat) = 0,
 (0 : Nat) = 0,
 (0 : Nat) = 0,
 true = true,
 m ≤ m,
 f = f ∧ plainSh acSh = true ∨ ∀ (i : Nat), i < m → rowOb acSh 0 (f i) (f i),
 (MS.mk (memPut x.S.M (avInt (f (0 + ii) 2)) (avInt (f (0 + ii) 3)) (avInt (f (0 + ii) 4)) (avInt (f (0 + ii) 5))) (IntKind.i64.wrap (x.S.st + 1)) (LS.mk 2 (avInt (f (0 + ii) 2)) (avInt (f (0 + ii) 3)) (avInt (f (0 + ii) 4)) (mget x.S.M (key (avInt (f (0 + ii) 2)) (avInt (f (0 + ii) 3)) (avInt (f (0 + ii) 4)))) (memIs x.S.M (avInt (f (0 + ii) 2)) (avInt (f (0 + ii) 3)) (avInt (f (0 + ii) 4)) (avInt (f (0 + ii) 5))) false)).st = (ET.mk (mStore x.S (avInt (f (0 + ii) 2)) (avInt (f (0 + ii) 3)) (avInt (f (0 + ii) 4)) (avInt (f (0 + ii) 5))) (rStore x.R (avInt (f (0 + ii) 2)) (avInt (f (0 + ii) 3)) (avInt (f (0 + ii) 4)) (avInt (f (0 + ii) 5))) x.n x.O).S.st,
 (2 : Int) = 2,
 (MS.mk (memPut x.S.M (avInt (f (0 + ii) 2)) (avInt (f (0 + ii) 3)) (avInt (f (0 + ii) 4)) (avInt (f (0 + ii) 5))) (IntKind.i64.wrap (x.S.st + 1)) (LS.mk 2 (avInt (f (0 + ii) 2)) (avInt (f (0 + ii) 3)) (avInt (f (0 + ii) 4)) (mget x.S.M (key (avInt (f (0 + ii) 2)) (avInt (f (0 + ii) 3)) (avInt (f (0 + ii) 4)))) (memIs x.S.M (avInt (f (0 + ii) 2)) (avInt (f (0 + ii) 3)) (avInt (f (0 + ii) 4)) (avInt (f (0 + ii) 5))) false)).L.k = (ET.mk (mStore x.S (avInt (f (0 + ii) 2)) (avInt (f (0 + ii) 3)) (avInt (f (0 + ii) 4)) (avInt (f (0 + ii) 5))) (rStore x.R (avInt (f (0 + ii) 2)) (avInt (f (0 + ii) 3)) (avInt (f (0 + ii) 4)) (avInt (f (0 + ii) 5))) x.n x.O).S.L.k,
 (MS.mk (memPut x.S.M (avInt (f (0 + ii) 2)) (avInt (f (0 + ii) 3)) (avInt (f (0 + ii) 4)) (avInt (f (0 + ii) 5))) (IntKind.i64.wrap (x.S.st + 1)) (LS.mk 2 (avInt (f (0 + ii) 2)) (avInt (f (0 + ii) 3)) (avInt (f (0 + ii) 4)) (mget x.S.M (key (avInt (f (0 + ii) 2)) (avInt (f (0 + ii) 3)) (avInt (f (0 + ii) 4)))) (memIs x.S.M (avInt (f (0 + ii) 2)) (avInt (f (0 + ii) 3)) (avInt (f (0 + ii) 4)) (avInt (f (0 + ii) 5))) false)).L.a = (ET.mk (mStore x.S (avInt (f (0 + ii) 2)) (avInt (f (0 + ii) 3)) (avInt (f (0 + ii) 4)) (avInt (f (0 + ii) 5))) (rStore x.R (avInt (f (0 + ii) 2)) (avInt (f (0 + ii) 3)) (avInt (f (0 + ii) 4)) (avInt (f (0 + ii) 5))) x.n x.O).S.L.a,
 (MS.mk (memPut x.S.M (avInt (f (0 + ii) 2)) (avInt (f (0 + ii) 3)) (avInt (f (0 + ii) 4)) (avInt (f (0 + ii) 5))) (IntKind.i64.wrap (x.S.st + 1)) (LS.mk 2 (avInt (f (0 + ii) 2)) (avInt (f (0 + ii) 3)) (avInt (f (0 + ii) 4)) (mget x.S.M (key (avInt (f (0 + ii) 2)) (avInt (f (0 + ii) 3)) (avInt (f (0 + ii) 4)))) (memIs x.S.M (avInt (f (0 + ii) 2)) (avInt (f (0 + ii) 3)) (avInt (f (0 + ii) 4)) (avInt (f (0 + ii) 5))) false)).L.f = (ET.mk (mStore x.S (avInt (f (0 + ii) 2)) (avInt (f (0 + ii) 3)) (avInt (f (0 + ii) 4)) (avInt (f (0 + ii) 5))) (rStore x.R (avInt (f (0 + ii) 2)) (avInt (f (0 + ii) 3)) (avInt (f (0 + ii) 4)) (avInt (f (0 + ii) 5))) x.n x.O).S.L.f,
 (MS.mk (memPut x.S.M (avInt (f (0 + ii) 2)) (avInt (f (0 + ii) 3)) (avInt (f (0 + ii) 4)) (avInt (f (0 + ii) 5))) (IntKind.i64.wrap (x.S.st + 1)) (LS.mk 2 (avInt (f (0 + ii) 2)) (avInt (f (0 + ii) 3)) (avInt (f (0 + ii) 4)) (mget x.S.M (key (avInt (f (0 + ii) 2)) (avInt (f (0 + ii) 3)) (avInt (f (0 + ii) 4)))) (memIs x.S.M (avInt (f (0 + ii) 2)) (avInt (f (0 + ii) 3)) (avInt (f (0 + ii) 4)) (avInt (f (0 + ii) 5))) false)).L.w = (ET.mk (mStore x.S (avInt (f (0 + ii) 2)) (avInt (f (0 + ii) 3)) (avInt (f (0 + ii) 4)) (avInt (f (0 + ii) 5))) (rStore x.R (avInt (f (0 + ii) 2)) (avInt (f (0 + ii) 3)) (avInt (f (0 + ii) 4)) (avInt (f (0 + ii) 5))) x.n x.O).S.L.w,
 (MS.mk (memPut x.S.M (avInt (f (0 + ii) 2)) (avInt (f (0 + ii) 3)) (avInt (f (0 + ii) 4)) (avInt (f (0 + ii) 5))) (IntKind.i64.wrap (x.S.st + 1)) (LS.mk 2 (avInt (f (0 + ii) 2)) (avInt (f (0 + ii) 3)) (avInt (f (0 + ii) 4)) (mget x.S.M (key (avInt (f (0 + ii) 2)) (avInt (f (0 + ii) 3)) (avInt (f (0 + ii) 4)))) (memIs x.S.M (avInt (f (0 + ii) 2)) (avInt (f (0 + ii) 3)) (avInt (f (0 + ii) 4)) (avInt (f (0 + ii) 5))) false)).L.i = (ET.mk (mStore x.S (avInt (f (0 + ii) 2)) (avInt (f (0 + ii) 3)) (avInt (f (0 + ii) 4)) (avInt (f (0 + ii) 5))) (rStore x.R (avInt (f (0 + ii) 2)) (avInt (f (0 + ii) 3)) (avInt (f (0 + ii) 4)) (avInt (f (0 + ii) 5))) x.n x.O).S.L.i,
 (MS.mk (memPut x.S.M (avInt (f (0 + ii) 2)) (avInt (f (0 + ii) 3)) (avInt (f (0 + ii) 4)) (avInt (f (0 + ii) 5))) (IntKind.i64.wrap (x.S.st + 1)) (LS.mk 2 (avInt (f (0 + ii) 2)) (avInt (f (0 + ii) 3)) (avInt (f (0 + ii) 4)) (mget x.S.M (key (avInt (f (0 + ii) 2)) (avInt (f (0 + ii) 3)) (avInt (f (0 + ii) 4)))) (memIs x.S.M (avInt (f (0 + ii) 2)) (avInt (f (0 + ii) 3)) (avInt (f (0 + ii) 4)) (avInt (f (0 + ii) 5))) false)).L.d = (ET.mk (mStore x.S (avInt (f (0 + ii) 2)) (avInt (f (0 + ii) 3)) (avInt (f (0 + ii) 4)) (avInt (f (0 + ii) 5))) (rStore x.R (avInt (f (0 + ii) 2)) (avInt (f (0 + ii) 3)) (avInt (f (0 + ii) 4)) (avInt (f (0 + ii) 5))) x.n x.O).S.L.d,
 ∀ (k : List Int), (MS.mk (memPut x.S.M (avInt (f (0 + ii) 2)) (avInt (f (0 + ii) 3)) (avInt (f (0 + ii) 4)) (avInt (f (0 + ii) 5))) (IntKind.i64.wrap (x.S.st + 1)) (LS.mk 2 (avInt (f (0 + ii) 2)) (avInt (f (0 + ii) 3)) (avInt (f (0 + ii) 4)) (mget x.S.M (key (avInt (f (0 + ii) 2)) (avInt (f (0 + ii) 3)) (avInt (f (0 + ii) 4)))) (memIs x.S.M (avInt (f (0 + ii) 2)) (avInt (f (0 + ii) 3)) (avInt (f (0 + ii) 4)) (avInt (f (0 + ii) 5))) false)).M k = (ET.mk (mStore x.S (avInt (f (0 + ii) 2)) (avInt (f (0 + ii) 3)) (avInt (f (0 + ii) 4)) (avInt (f (0 + ii) 5))) (rStore x.R (avInt (f (0 + ii) 2)) (avInt (f (0 + ii) 3)) (avInt (f (0 + ii) 4)) (avInt (f (0 + ii) 5))) x.n x.O).S.M k,
 (0 : Nat) = 0,
 (dPut (dOf x.R.D.n (wdF x.R.D.W)) (avInt (f (0 + ii) 2)) (avInt (f (0 + ii) 3)) (avInt (f (0 + ii) 4)) (avInt (f (0 + ii) 5))).n = (ET.mk (mStore x.S (avInt (f (0 + ii) 2)) (avInt (f (0 + ii) 3)) (avInt (f (0 + ii) 4)) (avInt (f (0 + ii) 5))) (rStore x.R (avInt (f (0 + ii) 2)) (avInt (f (0 + ii) 3)) (avInt (f (0 + ii) 4)) (avInt (f (0 + ii) 5))) x.n x.O).R.D.n,
 (none : Option Nat) = none,
 IntKind.i64.wrap (x.R.st + 1) = (ET.mk (mStore x.S (avInt (f (0 + ii) 2)) (avInt (f (0 + ii) 3)) (avInt (f (0 + ii) 4)) (avInt (f (0 + ii) 5))) (rStore x.R (avInt (f (0 + ii) 2)) (avInt (f (0 + ii) 3)) (avInt (f (0 + ii) 4)) (avInt (f (0 + ii) 5))) x.n x.O).R.st,
 (2 : Int) = 2,
 (LS.mk 2 (avInt (f (0 + ii) 2)) (avInt (f (0 + ii) 3)) (avInt (f (0 + ii) 4)) (dWord (dOf x.R.D.n (wdF x.R.D.W)) (avInt (f (0 + ii) 2)) (avInt (f (0 + ii) 3)) (avInt (f (0 + ii) 4))) (dWord (dPut (dOf x.R.D.n (wdF x.R.D.W)) (avInt (f (0 + ii) 2)) (avInt (f (0 + ii) 3)) (avInt (f (0 + ii) 4)) (avInt (f (0 + ii) 5))) (avInt (f (0 + ii) 2)) (avInt (f (0 + ii) 3)) (avInt (f (0 + ii) 4))) false).k = (ET.mk (mStore x.S (avInt (f (0 + ii) 2)) (avInt (f (0 + ii) 3)) (avInt (f (0 + ii) 4)) (avInt (f (0 + ii) 5))) (rStore x.R (avInt (f (0 + ii) 2)) (avInt (f (0 + ii) 3)) (avInt (f (0 + ii) 4)) (avInt (f (0 + ii) 5))) x.n x.O).R.L.k,
 (LS.mk 2 (avInt (f (0 + ii) 2)) (avInt (f (0 + ii) 3)) (avInt (f (0 + ii) 4)) (dWord (dOf x.R.D.n (wdF x.R.D.W)) (avInt (f (0 + ii) 2)) (avInt (f (0 + ii) 3)) (avInt (f (0 + ii) 4))) (dWord (dPut (dOf x.R.D.n (wdF x.R.D.W)) (avInt (f (0 + ii) 2)) (avInt (f (0 + ii) 3)) (avInt (f (0 + ii) 4)) (avInt (f (0 + ii) 5))) (avInt (f (0 + ii) 2)) (avInt (f (0 + ii) 3)) (avInt (f (0 + ii) 4))) false).a = (ET.mk (mStore x.S (avInt (f (0 + ii) 2)) (avInt (f (0 + ii) 3)) (avInt (f (0 + ii) 4)) (avInt (f (0 + ii) 5))) (rStore x.R (avInt (f (0 + ii) 2)) (avInt (f (0 + ii) 3)) (avInt (f (0 + ii) 4)) (avInt (f (0 + ii) 5))) x.n x.O).R.L.a,
 (LS.mk 2 (avInt (f (0 + ii) 2)) (avInt (f (0 + ii) 3)) (avInt (f (0 + ii) 4)) (dWord (dOf x.R.D.n (wdF x.R.D.W)) (avInt (f (0 + ii) 2)) (avInt (f (0 + ii) 3)) (avInt (f (0 + ii) 4))) (dWord (dPut (dOf x.R.D.n (wdF x.R.D.W)) (avInt (f (0 + ii) 2)) (avInt (f (0 + ii) 3)) (avInt (f (0 + ii) 4)) (avInt (f (0 + ii) 5))) (avInt (f (0 + ii) 2)) (avInt (f (0 + ii) 3)) (avInt (f (0 + ii) 4))) false).f = (ET.mk (mStore x.S (avInt (f (0 + ii) 2)) (avInt (f (0 + ii) 3)) (avInt (f (0 + ii) 4)) (avInt (f (0 + ii) 5))) (rStore x.R (avInt (f (0 + ii) 2)) (avInt (f (0 + ii) 3)) (avInt (f (0 + ii) 4)) (avInt (f (0 + ii) 5))) x.n x.O).R.L.f,
 (LS.mk 2 (avInt (f (0 + ii) 2)) (avInt (f (0 + ii) 3)) (avInt (f (0 + ii) 4)) (dWord (dOf x.R.D.n (wdF x.R.D.W)) (avInt (f (0 + ii) 2)) (avInt (f (0 + ii) 3)) (avInt (f (0 + ii) 4))) (dWord (dPut (dOf x.R.D.n (wdF x.R.D.W)) (avInt (f (0 + ii) 2)) (avInt (f (0 + ii) 3)) (avInt (f (0 + ii) 4)) (avInt (f (0 + ii) 5))) (avInt (f (0 + ii) 2)) (avInt (f (0 + ii) 3)) (avInt (f (0 + ii) 4))) false).w = (ET.mk (mStore x.S (avInt (f (0 + ii) 2)) (avInt (f (0 + ii) 3)) (avInt (f (0 + ii) 4)) (avInt (f (0 + ii) 5))) (rStore x.R (avInt (f (0 + ii) 2)) (avInt (f (0 + ii) 3)) (avInt (f (0 + ii) 4)) (avInt (f (0 + ii) 5))) x.n x.O).R.L.w,
 (LS.mk 2 (avInt (f (0 + ii) 2)) (avInt (f (0 + ii) 3)) (avInt (f (0 + ii) 4)) (dWord (dOf x.R.D.n (wdF x.R.D.W)) (avInt (f (0 + ii) 2)) (avInt (f (0 + ii) 3)) (avInt (f (0 + ii) 4))) (dWord (dPut (dOf x.R.D.n (wdF x.R.D.W)) (avInt (f (0 + ii) 2)) (avInt (f (0 + ii) 3)) (avInt (f (0 + ii) 4)) (avInt (f (0 + ii) 5))) (avInt (f (0 + ii) 2)) (avInt (f (0 + ii) 3)) (avInt (f (0 + ii) 4))) false).i = (ET.mk (mStore x.S (avInt (f (0 + ii) 2)) (avInt (f (0 + ii) 3)) (avInt (f (0 + ii) 4)) (avInt (f (0 + ii) 5))) (rStore x.R (avInt (f (0 + ii) 2)) (avInt (f (0 + ii) 3)) (avInt (f (0 + ii) 4)) (avInt (f (0 + ii) 5))) x.n x.O).R.L.i,
 (LS.mk 2 (avInt (f (0 + ii) 2)) (avInt (f (0 + ii) 3)) (avInt (f (0 + ii) 4)) (dWord (dOf x.R.D.n (wdF x.R.D.W)) (avInt (f (0 + ii) 2)) (avInt (f (0 + ii) 3)) (avInt (f (0 + ii) 4))) (dWord (dPut (dOf x.R.D.n (wdF x.R.D.W)) (avInt (f (0 + ii) 2)) (avInt (f (0 + ii) 3)) (avInt (f (0 + ii) 4)) (avInt (f (0 + ii) 5))) (avInt (f (0 + ii) 2)) (avInt (f (0 + ii) 3)) (avInt (f (0 + ii) 4))) false).d = (ET.mk (mStore x.S (avInt (f (0 + ii) 2)) (avInt (f (0 + ii) 3)) (avInt (f (0 + ii) 4)) (avInt (f (0 + ii) 5))) (rStore x.R (avInt (f (0 + ii) 2)) (avInt (f (0 + ii) 3)) (avInt (f (0 + ii) 4)) (avInt (f (0 + ii) 5))) x.n x.O).R.L.d,
 false = false,
 (ET.mk (mStore x.S (avInt (f (0 + ii) 2)) (avInt (f (0 + ii) 3)) (avInt (f (0 + ii) 4)) (avInt (f (0 + ii) 5))) (rStore x.R (avInt (f (0 + ii) 2)) (avInt (f (0 + ii) 3)) (avInt (f (0 + ii) 4)) (avInt (f (0 + ii) 5))) x.n x.O).R.D.n ≤ (dPut (dOf x.R.D.n (wdF x.R.D.W)) (avInt (f (0 + ii) 2)) (avInt (f (0 + ii) 3)) (avInt (f (0 + ii) 4)) (avInt (f (0 + ii) 5))).n,
 wdF (ET.mk (mStore x.S (avInt (f (0 + ii) 2)) (avInt (f (0 + ii) 3)) (avInt (f (0 + ii) 4)) (avInt (f (0 + ii) 5))) (rStore x.R (avInt (f (0 + ii) 2)) (avInt (f (0 + ii) 3)) (avInt (f (0 + ii) 4)) (avInt (f (0 + ii) 5))) x.n x.O).R.D.W = wdF (dPut (dOf x.R.D.n (wdF x.R.D.W)) (avInt (f (0 + ii) 2)) (avInt (f (0 + ii) 3)) (avInt (f (0 + ii) 4)) (avInt (f (0 + ii) 5))).W ∧ plainSh wSh = true ∨ ∀ (i : Nat), i < (ET.mk (mStore x.S (avInt (f (0 + ii) 2)) (avInt (f (0 + ii) 3)) (avInt (f (0 + ii) 4)) (avInt (f (0 + ii) 5))) (rStore x.R (avInt (f (0 + ii) 2)) (avInt (f (0 + ii) 3)) (avInt (f (0 + ii) 4)) (avInt (f (0 + ii) 5))) x.n x.O).R.D.n → rowOb wSh 0 (wdF (dPut (dOf x.R.D.n (wdF x.R.D.W)) (avInt (f (0 + ii) 2)) (avInt (f (0 + ii) 3)) (avInt (f (0 + ii) 4)) (avInt (f (0 + ii) 5))).W i) (wdF (ET.mk (mStore x.S (avInt (f (0 + ii) 2)) (avInt (f (0 + ii) 3)) (avInt (f (0 + ii) 4)) (avInt (f (0 + ii) 5))) (rStore x.R (avInt (f (0 + ii) 2)) (avInt (f (0 + ii) 3)) (avInt (f (0 + ii) 4)) (avInt (f (0 + ii) 5))) x.n x.O).R.D.W i),
 Both (MS.mk (memPut x.S.M (avInt (f (0 + ii) 2)) (avInt (f (0 + ii) 3)) (avInt (f (0 + ii) 4)) (avInt (f (0 + ii) 5))) (IntKind.i64.wrap (x.S.st + 1)) (LS.mk 2 (avInt (f (0 + ii) 2)) (avInt (f (0 + ii) 3)) (avInt (f (0 + ii) 4)) (mget x.S.M (key (avInt (f (0 + ii) 2)) (avInt (f (0 + ii) 3)) (avInt (f (0 + ii) 4)))) (memIs x.S.M (avInt (f (0 + ii) 2)) (avInt (f (0 + ii) 3)) (avInt (f (0 + ii) 4)) (avInt (f (0 + ii) 5))) false)) (mkR (dPut (dOf x.R.D.n (wdF x.R.D.W)) (avInt (f (0 + ii) 2)) (avInt (f (0 + ii) 3)) (avInt (f (0 + ii) 4)) (avInt (f (0 + ii) 5))).n (wdF (dPut (dOf x.R.D.n (wdF x.R.D.W)) (avInt (f (0 + ii) 2)) (avInt (f (0 + ii) 3)) (avInt (f (0 + ii) 4)) (avInt (f (0 + ii) 5))).W) (IntKind.i64.wrap (x.R.st + 1)) (LS.mk 2 (avInt (f (0 + ii) 2)) (avInt (f (0 + ii) 3)) (avInt (f (0 + ii) 4)) (dWord (dOf x.R.D.n (wdF x.R.D.W)) (avInt (f (0 + ii) 2)) (avInt (f (0 + ii) 3)) (avInt (f (0 + ii) 4))) (dWord (dPut (dOf x.R.D.n (wdF x.R.D.W)) (avInt (f (0 + ii) 2)) (avInt (f (0 + ii) 3)) (avInt (f (0 + ii) 4)) (avInt (f (0 + ii) 5))) (avInt (f (0 + ii) 2)) (avInt (f (0 + ii) 3)) (avInt (f (0 + ii) 4))) false)),
 x.R.D.n ≤ x.R.D.n,
 x.R.D.n ≤ 100000,
 0 ≤ avInt (f (0 + ii) 2),
 ((IntKind.i64.wrap (avInt (f (0 + ii) 0))).tmod 8 == 3) = true,
 ((IntKind.i64.wrap (avInt (f (0 + ii) 0))).tmod 8 == 2) = false,
 ((IntKind.i64.wrap (avInt (f (0 + ii) 0))).tmod 8 == 1) = false,
 ((IntKind.i64.wrap (avInt (f (0 + ii) 0))).tmod 8 == 0) = false,
 (0 + ii).blt m = true,
 (ii.blt m && decide (0 ≤ Int.ofNat ii)) = true,
 decide (Int.ofNat ii < Int.ofNat m) = true]) := by kernel_rfl
theorem eg4_1 (m : Nat) (f : Nat → Nat → AV) (q : Nat) (h : Nat → Nat → AV) (ii : Nat) (x : ET) : roundB EEg 3000 egL (h0F egF (egU m f q h)) [(8, Src.nm 8), (9, Src.nm 9)] (locSt egF (egT m f ii x) false (eMb (x.O x.n)) x.n []) [Hint.b true, Hint.b false, Hint.b false, Hint.b false, Hint.b false, Hint.node [(3, [Hint.b false])]] (locSt egF (egT m f (ii + 1) x) false (eMb (x.O x.n)) x.n []) =
 some (Ex.norm, [(0 : Nat) = 0,
 m = m,
 (none : Option Nat) = none,
 (0 : Nat) = 0,
 (0 : Nat) = 0,
 (0 : Nat) = 0,
 x.n = x.n,
 (none : Option Nat) = none,
 IntKind.i64.wrap (Int.ofNat ii + 1) = Int.ofNat (ii + 1),
 false = false,
 (egT m f (ii + 1) x).n ≤ (egT m f ii x).n,
 ∀ (i : Nat), i < (egT m f (ii + 1) x).n → rowV (CM.mk 8 6703903964971298549787012499102923063739682910296196688861780721860882015036773488400937149083451713845015929093243025426876941405973284973216824503042048 [(8, Src.nm 8), (9, Src.nm 9)]) egF.sh 0 (lrow 6703903964971298549787012499102923063739682910296196688861780721860882015036773488400937149083451713845015929093243025426876941405973284973216824503042048 2 (egT m f ii x).M x.n i) (lrow 6703903964971298549787012499102923063739682910296196688861780721860882015036773488400937149083451713845015929093243025426876941405973284973216824503042048 2 (egT m f (ii + 1) x).M x.n i),
 (0 : Nat) = 0,
 (0 : Nat) = 0,
 (0 : Nat) = 0,
 (0 : Nat) = 0,
 true = true,
 m ≤ m,
 f = f ∧ plainSh acSh = true ∨ ∀ (i : Nat), i < m → rowOb acSh 0 (f i) (f i),
 x.S.st = x.S.st,
 x.S.L.c = x.S.L.c,
 x.S.L.k = x.S.L.k,
 x.S.L.a = x.S.L.a,
 x.S.L.f = x.S.L.f,
 x.S.L.w = x.S.L.w,
 x.S.L.i = x.S.L.i,
 x.S.L.d = x.S.L.d,
 ∀ (k : List Int), x.S.M k = x.S.M k,
 (0 : Nat) = 0,
 x.R.D.n = x.R.D.n,
 (none : Option Nat) = none,
 x.R.st = x.R.st,
 x.R.L.c = x.R.L.c,
 x.R.L.k = x.R.L.k,
 x.R.L.a = x.R.L.a,
 x.R.L.f = x.R.L.f,
 x.R.L.w = x.R.L.w,
 x.R.L.i = x.R.L.i,
 x.R.L.d = x.R.L.d,
 false = false,
 x.R.D.n ≤ x.R.D.n,
 wdF x.R.D.W = wdF x.R.D.W ∧ plainSh wSh = true ∨ ∀ (i : Nat), i < x.R.D.n → rowOb wSh 0 (wdF x.R.D.W i) (wdF x.R.D.W i),
 Both x.S x.R,
 decide (Int.ofNat x.n > 0) = false,
 ((IntKind.i64.wrap (avInt (f (0 + ii) 0))).tmod 8 == 3) = false,
 ((IntKind.i64.wrap (avInt (f (0 + ii) 0))).tmod 8 == 2) = false,
 ((IntKind.i64.wrap (avInt (f (0 + ii) 0))).tmod 8 == 1) = false,
 ((IntKind.i64.wrap (avInt (f (0 + ii) 0))).tmod 8 == 0) = false,
 (0 + ii).blt m = true,
 (ii.blt m && decide (0 ≤ Int.ofNat ii)) = true,
 decide (Int.ofNat ii < Int.ofNat m) = true]) := by kernel_rfl
theorem eg5_1 (m : Nat) (f : Nat → Nat → AV) (q : Nat) (h : Nat → Nat → AV) (ii : Nat) (x : ET) (j : Nat) (av e th t2 b : Int) (mv : Bool) : roundB EEg 3000 egL (h0F egF (egU m f q h)) [(8, Src.nm 8), (9, Src.nm 1534401847451316501568682670387937102601550959082686620070292828795062717064691197601532855777767573664478133184793783285570589005883777993747747308506), (900, Src.nm 900), (901, Src.nm 901)] (locSt egF (egT m f ii x) true (eMb (EO.mk 0 av e th t2 b mv)) j []) [Hint.b true, Hint.b false, Hint.b false, Hint.b false, Hint.b false, Hint.node [(3, [Hint.b true]), (13, [Hint.a (AV.ptr 900 0 0), Hint.a AV.nilp, Hint.a AV.nilp, Hint.a (AV.ptr 901 0 0)])]] (locSt egF (egT m f (ii + 1) (etDo2 x j (EO.mk 0 av e th t2 b mv))) true (eMb (eoO x.S (EO.mk 0 av e th t2 b mv))) j []) =
 some (Ex.norm, [(0 : Nat) = 0,
 m = m,
 (none : Option Nat) = none,
 (0 : Nat) = 0,
 (0 : Nat) = 0,
 (0 : Nat) = 0,
 x.n = (etDo2 x j (EO.mk 0 av e th t2 b mv)).n,
 (none : Option Nat) = none,
 IntKind.i64.wrap (Int.ofNat ii + 1) = Int.ofNat (ii + 1),
 eA0 (EO.mk 0 av e th t2 b mv).at_ = (eoO x.S (EO.mk 0 av e th t2 b mv)).at_,
 eE0 x.S (EO.mk 0 av e th t2 b mv).at_ (EO.mk 0 av e th t2 b mv).e = (eoO x.S (EO.mk 0 av e th t2 b mv)).e,
 (EO.mk 0 av e th t2 b mv).th = (eoO x.S (EO.mk 0 av e th t2 b mv)).th,
 (0 : Int) = 0,
 (EO.mk 0 av e th t2 b mv).t2 = (eoO x.S (EO.mk 0 av e th t2 b mv)).t2,
 ln0 (eA0 (EO.mk 0 av e th t2 b mv).at_) = ln0 (eoO x.S (EO.mk 0 av e th t2 b mv)).at_,
 (EO.mk 0 av e th t2 b mv).mv = (eoO x.S (EO.mk 0 av e th t2 b mv)).mv,
 eE0 x.S (EO.mk 0 av e th t2 b mv).at_ (EO.mk 0 av e th t2 b mv).e = (eoO x.S (EO.mk 0 av e th t2 b mv)).e,
 (EO.mk 0 av e th t2 b mv).b = (eoO x.S (EO.mk 0 av e th t2 b mv)).b,
 false = false,
 (egT m f (ii + 1) (etDo2 x j (EO.mk 0 av e th t2 b mv))).n ≤ (egT m f ii x).n,
 ∀ (i : Nat), i < (egT m f (ii + 1) (etDo2 x j (EO.mk 0 av e th t2 b mv))).n → rowV (CM.mk 8 6703903964971298549787012499102923063739682910296196688861780721860882015036773488400937149083451713845015929093243025426876941405973284973216824503042048 [(8, Src.nm 8), (9, Src.nm 1534401847451316501568682670387937102601550959082686620070292828795062717064691197601532855777767573664478133184793783285570589005883777993747747308506), (900, Src.nm 900), (901, Src.nm 901)]) egF.sh 0 (lrow 6703903964971298549787012499102923063739682910296196688861780721860882015036773488400937149083451713845015929093243025426876941405973284973216824503042048 2 (egT m f ii x).M j i) (lrow 6703903964971298549787012499102923063739682910296196688861780721860882015036773488400937149083451713845015929093243025426876941405973284973216824503042048 2 (egT m f (ii + 1) (etDo2 x j (EO.mk 0 av e th t2 b mv))).M j i),
 (0 : Nat) = 0,
 (0 : Nat) = 0,
 (0 : Nat) = 0,
 (0 : Nat) = 0,
 true = true,
 m ≤ m,
 f = f ∧ plainSh acSh = true ∨ ∀ (i : Nat), i < m → rowOb acSh 0 (f i) (f i),
 (eS0 x.S (EO.mk 0 av e th t2 b mv).at_ (EO.mk 0 av e th t2 b mv).e (EO.mk 0 av e th t2 b mv).th).st = (etDo2 x j (EO.mk 0 av e th t2 b mv)).S.st,
 (eS0 x.S (EO.mk 0 av e th t2 b mv).at_ (EO.mk 0 av e th t2 b mv).e (EO.mk 0 av e th t2 b mv).th).L.c = (etDo2 x j (EO.mk 0 av e th t2 b mv)).S.L.c,
 (eS0 x.S (EO.mk 0 av e th t2 b mv).at_ (EO.mk 0 av e th t2 b mv).e (EO.mk 0 av e th t2 b mv).th).L.k = (etDo2 x j (EO.mk 0 av e th t2 b mv)).S.L.k,
 (eS0 x.S (EO.mk 0 av e th t2 b mv).at_ (EO.mk 0 av e th t2 b mv).e (EO.mk 0 av e th t2 b mv).th).L.a = (etDo2 x j (EO.mk 0 av e th t2 b mv)).S.L.a,
 (eS0 x.S (EO.mk 0 av e th t2 b mv).at_ (EO.mk 0 av e th t2 b mv).e (EO.mk 0 av e th t2 b mv).th).L.f = (etDo2 x j (EO.mk 0 av e th t2 b mv)).S.L.f,
 (eS0 x.S (EO.mk 0 av e th t2 b mv).at_ (EO.mk 0 av e th t2 b mv).e (EO.mk 0 av e th t2 b mv).th).L.w = (etDo2 x j (EO.mk 0 av e th t2 b mv)).S.L.w,
 (eS0 x.S (EO.mk 0 av e th t2 b mv).at_ (EO.mk 0 av e th t2 b mv).e (EO.mk 0 av e th t2 b mv).th).L.i = (etDo2 x j (EO.mk 0 av e th t2 b mv)).S.L.i,
 (eS0 x.S (EO.mk 0 av e th t2 b mv).at_ (EO.mk 0 av e th t2 b mv).e (EO.mk 0 av e th t2 b mv).th).L.d = (etDo2 x j (EO.mk 0 av e th t2 b mv)).S.L.d,
 ∀ (k : List Int), (eS0 x.S (EO.mk 0 av e th t2 b mv).at_ (EO.mk 0 av e th t2 b mv).e (EO.mk 0 av e th t2 b mv).th).M k = (etDo2 x j (EO.mk 0 av e th t2 b mv)).S.M k,
 (0 : Nat) = 0,
 (eR0 x.R (EO.mk 0 av e th t2 b mv).at_ (EO.mk 0 av e th t2 b mv).e (EO.mk 0 av e th t2 b mv).th).D.n = (etDo2 x j (EO.mk 0 av e th t2 b mv)).R.D.n,
 (none : Option Nat) = none,
 (eR0 x.R (EO.mk 0 av e th t2 b mv).at_ (EO.mk 0 av e th t2 b mv).e (EO.mk 0 av e th t2 b mv).th).st = (etDo2 x j (EO.mk 0 av e th t2 b mv)).R.st,
 (eR0 x.R (EO.mk 0 av e th t2 b mv).at_ (EO.mk 0 av e th t2 b mv).e (EO.mk 0 av e th t2 b mv).th).L.c = (etDo2 x j (EO.mk 0 av e th t2 b mv)).R.L.c,
 (eR0 x.R (EO.mk 0 av e th t2 b mv).at_ (EO.mk 0 av e th t2 b mv).e (EO.mk 0 av e th t2 b mv).th).L.k = (etDo2 x j (EO.mk 0 av e th t2 b mv)).R.L.k,
 (eR0 x.R (EO.mk 0 av e th t2 b mv).at_ (EO.mk 0 av e th t2 b mv).e (EO.mk 0 av e th t2 b mv).th).L.a = (etDo2 x j (EO.mk 0 av e th t2 b mv)).R.L.a,
 (eR0 x.R (EO.mk 0 av e th t2 b mv).at_ (EO.mk 0 av e th t2 b mv).e (EO.mk 0 av e th t2 b mv).th).L.f = (etDo2 x j (EO.mk 0 av e th t2 b mv)).R.L.f,
 (eR0 x.R (EO.mk 0 av e th t2 b mv).at_ (EO.mk 0 av e th t2 b mv).e (EO.mk 0 av e th t2 b mv).th).L.w = (etDo2 x j (EO.mk 0 av e th t2 b mv)).R.L.w,
 (eR0 x.R (EO.mk 0 av e th t2 b mv).at_ (EO.mk 0 av e th t2 b mv).e (EO.mk 0 av e th t2 b mv).th).L.i = (etDo2 x j (EO.mk 0 av e th t2 b mv)).R.L.i,
 (eR0 x.R (EO.mk 0 av e th t2 b mv).at_ (EO.mk 0 av e th t2 b mv).e (EO.mk 0 av e th t2 b mv).th).L.d = (etDo2 x j (EO.mk 0 av e th t2 b mv)).R.L.d,
 false = false,
 (etDo2 x j (EO.mk 0 av e th t2 b mv)).R.D.n ≤ (eR0 x.R (EO.mk 0 av e th t2 b mv).at_ (EO.mk 0 av e th t2 b mv).e (EO.mk 0 av e th t2 b mv).th).D.n,
 wdF (etDo2 x j (EO.mk 0 av e th t2 b mv)).R.D.W = wdF (eR0 x.R (EO.mk 0 av e th t2 b mv).at_ (EO.mk 0 av e th t2 b mv).e (EO.mk 0 av e th t2 b mv).th).D.W ∧ plainSh wSh = true ∨ ∀ (i : Nat), i < (etDo2 x j (EO.mk 0 av e th t2 b mv)).R.D.n → rowOb wSh 0 (wdF (eR0 x.R (EO.mk 0 av e th t2 b mv).at_ (EO.mk 0 av e th t2 b mv).e (EO.mk 0 av e th t2 b mv).th).D.W i) (wdF (etDo2 x j (EO.mk 0 av e th t2 b mv)).R.D.W i),
 Both (eS0 x.S (EO.mk 0 av e th t2 b mv).at_ (EO.mk 0 av e th t2 b mv).e (EO.mk 0 av e th t2 b mv).th) (eR0 x.R (EO.mk 0 av e th t2 b mv).at_ (EO.mk 0 av e th t2 b mv).e (EO.mk 0 av e th t2 b mv).th),
 x.R.D.n ≤ x.R.D.n,
 x.R.D.n ≤ 100000,
 Both x.S x.R,
 ∀ (k : List Int), 0 ≤ mget x.S.M k ∧ mget x.S.M k < 18446744073709551616,
 (0 : Int) = 0,
 (EO.mk 0 av e th t2 b mv).e = (EO.mk 0 av e th t2 b mv).e,
 (EO.mk 0 av e th t2 b mv).at_ = 0 ∨ (EO.mk 0 av e th t2 b mv).at_ = 1 ∨ (EO.mk 0 av e th t2 b mv).at_ = 4,
 ln0 (EO.mk 0 av e th t2 b mv).at_ = ln0 (EO.mk 0 av e th t2 b mv).at_,
 (EO.mk 0 av e th t2 b mv).at_ ≠ 0 → (EO.mk 0 av e th t2 b mv).t2 = (EO.mk 0 av e th t2 b mv).th,
 0 ≤ (EO.mk 0 av e th t2 b mv).e ∧ (EO.mk 0 av e th t2 b mv).e < 18446744073709551616,
 lrow 6703903964971298549787012499102923063739682910296196688861780721860882015036773488400937149083451713845015929093243025426876941405973284973216824503042048 2 (egT m f ii x).M j (0 + ((IntKind.u64.wrap (avInt (f (0 + ii) 1))).tmod (IntKind.u64.wrap (Int.ofNat x.n))).toNat) 3 = AV.ptr 901 0 0,
 lrow 6703903964971298549787012499102923063739682910296196688861780721860882015036773488400937149083451713845015929093243025426876941405973284973216824503042048 2 (egT m f ii x).M j (0 + ((IntKind.u64.wrap (avInt (f (0 + ii) 1))).tmod (IntKind.u64.wrap (Int.ofNat x.n))).toNat) 2 = AV.nilp,
 lrow 6703903964971298549787012499102923063739682910296196688861780721860882015036773488400937149083451713845015929093243025426876941405973284973216824503042048 2 (egT m f ii x).M j (0 + ((IntKind.u64.wrap (avInt (f (0 + ii) 1))).tmod (IntKind.u64.wrap (Int.ofNat x.n))).toNat) 1 = AV.nilp,
 lrow 6703903964971298549787012499102923063739682910296196688861780721860882015036773488400937149083451713845015929093243025426876941405973284973216824503042048 2 (egT m f ii x).M j (0 + ((IntKind.u64.wrap (avInt (f (0 + ii) 1))).tmod (IntKind.u64.wrap (Int.ofNat x.n))).toNat) 0 = AV.ptr 900 0 0,
 (0 + ((IntKind.u64.wrap (avInt (f (0 + ii) 1))).tmod (IntKind.u64.wrap (Int.ofNat x.n))).toNat).blt (egT m f ii x).n = true,
 (((IntKind.u64.wrap (avInt (f (0 + ii) 1))).tmod (IntKind.u64.wrap (Int.ofNat x.n))).toNat.blt x.n && decide (0 ≤ (IntKind.u64.wrap (avInt (f (0 + ii) 1))).tmod (IntKind.u64.wrap (Int.ofNat x.n)))) = true,
 decide (IntKind.u64.wrap (Int.ofNat x.n) ≠ 0) = true,
 decide (Int.ofNat x.n > 0) = true,
 ((IntKind.i64.wrap (avInt (f (0 + ii) 0))).tmod 8 == 3) = false,
 ((IntKind.i64.wrap (avInt (f (0 + ii) 0))).tmod 8 == 2) = false,
 ((IntKind.i64.wrap (avInt (f (0 + ii) 0))).tmod 8 == 1) = false,
 ((IntKind.i64.wrap (avInt (f (0 + ii) 0))).tmod 8 == 0) = false,
 (0 + ii).blt m = true,
 (ii.blt m && decide (0 ≤ Int.ofNat ii)) = true,
 decide (Int.ofNat ii < Int.ofNat m) = true]) := by kernel_rfl
theorem eg6_1 (m : Nat) (f : Nat → Nat → AV) (q : Nat) (h : Nat → Nat → AV) (ii : Nat) (x : ET) (j : Nat) (av e th t2 b : Int) (mv : Bool) : roundB EEg 3000 egL (h0F egF (egU m f q h)) [(8, Src.nm 8), (9, Src.nm 1534401847451316501568682670387937102601550959082686620070292828795062717064691197601532855777767573664478133184793783285570589005883777993747747308506), (900, Src.nm 900), (901, Src.nm 901)] (locSt egF (egT m f ii x) true (eMb (EO.mk 1 av e th t2 b mv)) j []) [Hint.b true, Hint.b false, Hint.b false, Hint.b false, Hint.b false, Hint.node [(3, [Hint.b true]), (13, [Hint.a AV.nilp, Hint.a (AV.ptr 900 0 0), Hint.a AV.nilp, Hint.a (AV.ptr 901 0 0)])]] (locSt egF (egT m f (ii + 1) (etDo2 x j (EO.mk 1 av e th t2 b mv))) true (eMb (eoO x.S (EO.mk 1 av e th t2 b mv))) j []) =
 some (Ex.norm, [(0 : Nat) = 0,
 m = m,
 (none : Option Nat) = none,
 (0 : Nat) = 0,
 (0 : Nat) = 0,
 (0 : Nat) = 0,
 x.n = (etDo2 x j (EO.mk 1 av e th t2 b mv)).n,
 (none : Option Nat) = none,
 IntKind.i64.wrap (Int.ofNat ii + 1) = Int.ofNat (ii + 1),
 (0 : Int) = 0,
 (EO.mk 1 av e th t2 b mv).e = (eoO x.S (EO.mk 1 av e th t2 b mv)).e,
 (EO.mk 1 av e th t2 b mv).th = (eoO x.S (EO.mk 1 av e th t2 b mv)).th,
 (1 : Int) = 1,
 (EO.mk 1 av e th t2 b mv).t2 = (eoO x.S (EO.mk 1 av e th t2 b mv)).t2,
 (0 : Int) = 0,
 (EO.mk 1 av e th t2 b mv).mv = (eoO x.S (EO.mk 1 av e th t2 b mv)).mv,
 (EO.mk 1 av e th t2 b mv).e = (eoO x.S (EO.mk 1 av e th t2 b mv)).e,
 (EO.mk 1 av e th t2 b mv).b = (eoO x.S (EO.mk 1 av e th t2 b mv)).b,
 false = false,
 (egT m f (ii + 1) (etDo2 x j (EO.mk 1 av e th t2 b mv))).n ≤ (egT m f ii x).n,
 ∀ (i : Nat), i < (egT m f (ii + 1) (etDo2 x j (EO.mk 1 av e th t2 b mv))).n → rowV (CM.mk 8 6703903964971298549787012499102923063739682910296196688861780721860882015036773488400937149083451713845015929093243025426876941405973284973216824503042048 [(8, Src.nm 8), (9, Src.nm 1534401847451316501568682670387937102601550959082686620070292828795062717064691197601532855777767573664478133184793783285570589005883777993747747308506), (900, Src.nm 900), (901, Src.nm 901)]) egF.sh 0 (lrow 6703903964971298549787012499102923063739682910296196688861780721860882015036773488400937149083451713845015929093243025426876941405973284973216824503042048 2 (egT m f ii x).M j i) (lrow 6703903964971298549787012499102923063739682910296196688861780721860882015036773488400937149083451713845015929093243025426876941405973284973216824503042048 2 (egT m f (ii + 1) (etDo2 x j (EO.mk 1 av e th t2 b mv))).M j i),
 (0 : Nat) = 0,
 (0 : Nat) = 0,
 (0 : Nat) = 0,
 (0 : Nat) = 0,
 true = true,
 m ≤ m,
 f = f ∧ plainSh acSh = true ∨ ∀ (i : Nat), i < m → rowOb acSh 0 (f i) (f i),
 (eS1 x.S (EO.mk 1 av e th t2 b mv).at_ (EO.mk 1 av e th t2 b mv).th).st = (etDo2 x j (EO.mk 1 av e th t2 b mv)).S.st,
 (eS1 x.S (EO.mk 1 av e th t2 b mv).at_ (EO.mk 1 av e th t2 b mv).th).L.c = (etDo2 x j (EO.mk 1 av e th t2 b mv)).S.L.c,
 (eS1 x.S (EO.mk 1 av e th t2 b mv).at_ (EO.mk 1 av e th t2 b mv).th).L.k = (etDo2 x j (EO.mk 1 av e th t2 b mv)).S.L.k,
 (eS1 x.S (EO.mk 1 av e th t2 b mv).at_ (EO.mk 1 av e th t2 b mv).th).L.a = (etDo2 x j (EO.mk 1 av e th t2 b mv)).S.L.a,
 (eS1 x.S (EO.mk 1 av e th t2 b mv).at_ (EO.mk 1 av e th t2 b mv).th).L.f = (etDo2 x j (EO.mk 1 av e th t2 b mv)).S.L.f,
 (eS1 x.S (EO.mk 1 av e th t2 b mv).at_ (EO.mk 1 av e th t2 b mv).th).L.w = (etDo2 x j (EO.mk 1 av e th t2 b mv)).S.L.w,
 (eS1 x.S (EO.mk 1 av e th t2 b mv).at_ (EO.mk 1 av e th t2 b mv).th).L.i = (etDo2 x j (EO.mk 1 av e th t2 b mv)).S.L.i,
 (eS1 x.S (EO.mk 1 av e th t2 b mv).at_ (EO.mk 1 av e th t2 b mv).th).L.d = (etDo2 x j (EO.mk 1 av e th t2 b mv)).S.L.d,
 ∀ (k : List Int), (eS1 x.S (EO.mk 1 av e th t2 b mv).at_ (EO.mk 1 av e th t2 b mv).th).M k = (etDo2 x j (EO.mk 1 av e th t2 b mv)).S.M k,
 (0 : Nat) = 0,
 (eR1 x.R (EO.mk 1 av e th t2 b mv).at_ (EO.mk 1 av e th t2 b mv).th).D.n = (etDo2 x j (EO.mk 1 av e th t2 b mv)).R.D.n,
 (none : Option Nat) = none,
 (eR1 x.R (EO.mk 1 av e th t2 b mv).at_ (EO.mk 1 av e th t2 b mv).th).st = (etDo2 x j (EO.mk 1 av e th t2 b mv)).R.st,
 (eR1 x.R (EO.mk 1 av e th t2 b mv).at_ (EO.mk 1 av e th t2 b mv).th).L.c = (etDo2 x j (EO.mk 1 av e th t2 b mv)).R.L.c,
 (eR1 x.R (EO.mk 1 av e th t2 b mv).at_ (EO.mk 1 av e th t2 b mv).th).L.k = (etDo2 x j (EO.mk 1 av e th t2 b mv)).R.L.k,
 (eR1 x.R (EO.mk 1 av e th t2 b mv).at_ (EO.mk 1 av e th t2 b mv).th).L.a = (etDo2 x j (EO.mk 1 av e th t2 b mv)).R.L.a,
 (eR1 x.R (EO.mk 1 av e th t2 b mv).at_ (EO.mk 1 av e th t2 b mv).th).L.f = (etDo2 x j (EO.mk 1 av e th t2 b mv)).R.L.f,
 (eR1 x.R (EO.mk 1 av e th t2 b mv).at_ (EO.mk 1 av e th t2 b mv).th).L.w = (etDo2 x j (EO.mk 1 av e th t2 b mv)).R.L.w,
 (eR1 x.R (EO.mk 1 av e th t2 b mv).at_ (EO.mk 1 av e th t2 b mv).th).L.i = (etDo2 x j (EO.mk 1 av e th t2 b mv)).R.L.i,
 (eR1 x.R (EO.mk 1 av e th t2 b mv).at_ (EO.mk 1 av e th t2 b mv).th).L.d = (etDo2 x j (EO.mk 1 av e th t2 b mv)).R.L.d,
 false = false,
 (etDo2 x j (EO.mk 1 av e th t2 b mv)).R.D.n ≤ (eR1 x.R (EO.mk 1 av e th t2 b mv).at_ (EO.mk 1 av e th t2 b mv).th).D.n,
 wdF (etDo2 x j (EO.mk 1 av e th t2 b mv)).R.D.W = wdF (eR1 x.R (EO.mk 1 av e th t2 b mv).at_ (EO.mk 1 av e th t2 b mv).th).D.W ∧ plainSh wSh = true ∨ ∀ (i : Nat), i < (etDo2 x j (EO.mk 1 av e th t2 b mv)).R.D.n → rowOb wSh 0 (wdF (eR1 x.R (EO.mk 1 av e th t2 b mv).at_ (EO.mk 1 av e th t2 b mv).th).D.W i) (wdF (etDo2 x j (EO.mk 1 av e th t2 b mv)).R.D.W i),
 Both (eS1 x.S (EO.mk 1 av e th t2 b mv).at_ (EO.mk 1 av e th t2 b mv).th) (eR1 x.R (EO.mk 1 av e th t2 b mv).at_ (EO.mk 1 av e th t2 b mv).th),
 x.R.D.n ≤ x.R.D.n,
 x.R.D.n ≤ 100000,
 Both x.S x.R,
 ∀ (k : List Int), 0 ≤ mget x.S.M k ∧ mget x.S.M k < 18446744073709551616,
 (1 : Int) = 1,
 (EO.mk 1 av e th t2 b mv).e = (EO.mk 1 av e th t2 b mv).e,
 (EO.mk 1 av e th t2 b mv).at_ = 0 ∨ (EO.mk 1 av e th t2 b mv).at_ = 1,
 (EO.mk 1 av e th t2 b mv).at_ = (EO.mk 1 av e th t2 b mv).at_,
 (EO.mk 1 av e th t2 b mv).at_ ≠ 0 → (EO.mk 1 av e th t2 b mv).t2 = (EO.mk 1 av e th t2 b mv).th,
 lrow 6703903964971298549787012499102923063739682910296196688861780721860882015036773488400937149083451713845015929093243025426876941405973284973216824503042048 2 (egT m f ii x).M j (0 + ((IntKind.u64.wrap (avInt (f (0 + ii) 1))).tmod (IntKind.u64.wrap (Int.ofNat x.n))).toNat) 3 = AV.ptr 901 0 0,
 lrow 6703903964971298549787012499102923063739682910296196688861780721860882015036773488400937149083451713845015929093243025426876941405973284973216824503042048 2 (egT m f ii x).M j (0 + ((IntKind.u64.wrap (avInt (f (0 + ii) 1))).tmod (IntKind.u64.wrap (Int.ofNat x.n))).toNat) 2 = AV.nilp,
 lrow 6703903964971298549787012499102923063739682910296196688861780721860882015036773488400937149083451713845015929093243025426876941405973284973216824503042048 2 (egT m f ii x).M j (0 + ((IntKind.u64.wrap (avInt (f (0 + ii) 1))).tmod (IntKind.u64.wrap (Int.ofNat x.n))).toNat) 1 = AV.ptr 900 0 0,
 lrow 6703903964971298549787012499102923063739682910296196688861780721860882015036773488400937149083451713845015929093243025426876941405973284973216824503042048 2 (egT m f ii x).M j (0 + ((IntKind.u64.wrap (avInt (f (0 + ii) 1))).tmod (IntKind.u64.wrap (Int.ofNat x.n))).toNat) 0 = AV.nilp,
 (0 + ((IntKind.u64.wrap (avInt (f (0 + ii) 1))).tmod (IntKind.u64.wrap (Int.ofNat x.n))).toNat).blt (egT m f ii x).n = true,
 (((IntKind.u64.wrap (avInt (f (0 + ii) 1))).tmod (IntKind.u64.wrap (Int.ofNat x.n))).toNat.blt x.n && decide (0 ≤ (IntKind.u64.wrap (avInt (f (0 + ii) 1))).tmod (IntKind.u64.wrap (Int.ofNat x.n)))) = true,
 decide (IntKind.u64.wrap (Int.ofNat x.n) ≠ 0) = true,
 decide (Int.ofNat x.n > 0) = true,
 ((IntKind.i64.wrap (avInt (f (0 + ii) 0))).tmod 8 == 3) = false,
 ((IntKind.i64.wrap (avInt (f (0 + ii) 0))).tmod 8 == 2) = false,
 ((IntKind.i64.wrap (avInt (f (0 + ii) 0))).tmod 8 == 1) = false,
 ((IntKind.i64.wrap (avInt (f (0 + ii) 0))).tmod 8 == 0) = false,
 (0 + ii).blt m = true,
 (ii.blt m && decide (0 ≤ Int.ofNat ii)) = true,
 decide (Int.ofNat ii < Int.ofNat m) = true]) := by kernel_rfl
theorem eg7_1 (m : Nat) (f : Nat → Nat → AV) (q : Nat) (h : Nat → Nat → AV) (ii : Nat) (x : ET) (j : Nat) (av e th t2 b : Int) (mv : Bool) (kk : Nat) : roundB EEg 3000 egL (h0F egF (egU m f q h)) [(8, Src.nm 8), (9, Src.nm 1534401847451316501568682670387937102601550959082686620070292828795062717064691197601532855777767573664478133184793783285570589005883777993747747308506), (900, Src.nm 900), (901, Src.nm 901)] (locSt egF (egT m f ii x) true (eMb (EO.mk (kk + 2) av e th t2 b mv)) j []) [Hint.b true, Hint.b false, Hint.b false, Hint.b false, Hint.b false, Hint.node [(3, [Hint.b true]), (13, [Hint.a AV.nilp, Hint.a AV.nilp, Hint.a (AV.ptr 900 0 0), Hint.a (AV.ptr 901 0 0)])]] (locSt egF (egT m f (ii + 1) (etDo2 x j (EO.mk (kk + 2) av e th t2 b mv))) true (eMb (eoO x.S (EO.mk (kk + 2) av e th t2 b mv))) j []) =
 some (Ex.norm, [(0 : Nat) = 0,
 m = m,
 (none : Option Nat) = none,
 (0 : Nat) = 0,
 (0 : Nat) = 0,
 (0 : Nat) = 0,
 x.n = (etDo2 x j (EO.mk (kk + 2) av e th t2 b mv)).n,
 (none : Option Nat) = none,
 IntKind.i64.wrap (Int.ofNat ii + 1) = Int.ofNat (ii + 1),
 eA2 x.S (EO.mk (kk + 2) av e th t2 b mv).at_ (EO.mk (kk + 2) av e th t2 b mv).e (EO.mk (kk + 2) av e th t2 b mv).th (EO.mk (kk + 2) av e th t2 b mv).b = (eoO x.S (EO.mk (kk + 2) av e th t2 b mv)).at_,
 eE0 x.S (EO.mk (kk + 2) av e th t2 b mv).at_ (EO.mk (kk + 2) av e th t2 b mv).e = (eoO x.S (EO.mk (kk + 2) av e th t2 b mv)).e,
 eT2 (EO.mk (kk + 2) av e th t2 b mv).at_ (EO.mk (kk + 2) av e th t2 b mv).th = (eoO x.S (EO.mk (kk + 2) av e th t2 b mv)).th,
 4 * eB2 x.S (EO.mk (kk + 2) av e th t2 b mv).at_ (EO.mk (kk + 2) av e th t2 b mv).b = 4 * (eoO x.S (EO.mk (kk + 2) av e th t2 b mv)).b,
 eV2 x.S (EO.mk (kk + 2) av e th t2 b mv).at_ (EO.mk (kk + 2) av e th t2 b mv).e (EO.mk (kk + 2) av e th t2 b mv).mv = (eoO x.S (EO.mk (kk + 2) av e th t2 b mv)).mv,
 (2 : Int) = 2,
 eT2 (EO.mk (kk + 2) av e th t2 b mv).at_ (EO.mk (kk + 2) av e th t2 b mv).th = (eoO x.S (EO.mk (kk + 2) av e th t2 b mv)).th,
 eA2 x.S (EO.mk (kk + 2) av e th t2 b mv).at_ (EO.mk (kk + 2) av e th t2 b mv).e (EO.mk (kk + 2) av e th t2 b mv).th (EO.mk (kk + 2) av e th t2 b mv).b = (eoO x.S (EO.mk (kk + 2) av e th t2 b mv)).at_,
 eV2 x.S (EO.mk (kk + 2) av e th t2 b mv).at_ (EO.mk (kk + 2) av e th t2 b mv).e (EO.mk (kk + 2) av e th t2 b mv).mv = (eoO x.S (EO.mk (kk + 2) av e th t2 b mv)).mv,
 eE0 x.S (EO.mk (kk + 2) av e th t2 b mv).at_ (EO.mk (kk + 2) av e th t2 b mv).e = (eoO x.S (EO.mk (kk + 2) av e th t2 b mv)).e,
 eB2 x.S (EO.mk (kk + 2) av e th t2 b mv).at_ (EO.mk (kk + 2) av e th t2 b mv).b = (eoO x.S (EO.mk (kk + 2) av e th t2 b mv)).b,
 false = false,
 (egT m f (ii + 1) (etDo2 x j (EO.mk (kk + 2) av e th t2 b mv))).n ≤ (egT m f ii x).n,
 ∀ (i : Nat), i < (egT m f (ii + 1) (etDo2 x j (EO.mk (kk + 2) av e th t2 b mv))).n → rowV (CM.mk 8 6703903964971298549787012499102923063739682910296196688861780721860882015036773488400937149083451713845015929093243025426876941405973284973216824503042048 [(8, Src.nm 8), (9, Src.nm 1534401847451316501568682670387937102601550959082686620070292828795062717064691197601532855777767573664478133184793783285570589005883777993747747308506), (900, Src.nm 900), (901, Src.nm 901)]) egF.sh 0 (lrow 6703903964971298549787012499102923063739682910296196688861780721860882015036773488400937149083451713845015929093243025426876941405973284973216824503042048 2 (egT m f ii x).M j i) (lrow 6703903964971298549787012499102923063739682910296196688861780721860882015036773488400937149083451713845015929093243025426876941405973284973216824503042048 2 (egT m f (ii + 1) (etDo2 x j (EO.mk (kk + 2) av e th t2 b mv))).M j i),
 (0 : Nat) = 0,
 (0 : Nat) = 0,
 (0 : Nat) = 0,
 (0 : Nat) = 0,
 true = true,
 m ≤ m,
 f = f ∧ plainSh acSh = true ∨ ∀ (i : Nat), i < m → rowOb acSh 0 (f i) (f i),
 (eS2 x.S (EO.mk (kk + 2) av e th t2 b mv).at_ (EO.mk (kk + 2) av e th t2 b mv).e (EO.mk (kk + 2) av e th t2 b mv).th).st = (etDo2 x j (EO.mk (kk + 2) av e th t2 b mv)).S.st,
 (eS2 x.S (EO.mk (kk + 2) av e th t2 b mv).at_ (EO.mk (kk + 2) av e th t2 b mv).e (EO.mk (kk + 2) av e th t2 b mv).th).L.c = (etDo2 x j (EO.mk (kk + 2) av e th t2 b mv)).S.L.c,
 (eS2 x.S (EO.mk (kk + 2) av e th t2 b mv).at_ (EO.mk (kk + 2) av e th t2 b mv).e (EO.mk (kk + 2) av e th t2 b mv).th).L.k = (etDo2 x j (EO.mk (kk + 2) av e th t2 b mv)).S.L.k,
 (eS2 x.S (EO.mk (kk + 2) av e th t2 b mv).at_ (EO.mk (kk + 2) av e th t2 b mv).e (EO.mk (kk + 2) av e th t2 b mv).th).L.a = (etDo2 x j (EO.mk (kk + 2) av e th t2 b mv)).S.L.a,
 (eS2 x.S (EO.mk (kk + 2) av e th t2 b mv).at_ (EO.mk (kk + 2) av e th t2 b mv).e (EO.mk (kk + 2) av e th t2 b mv).th).L.f = (etDo2 x j (EO.mk (kk + 2) av e th t2 b mv)).S.L.f,
 (eS2 x.S (EO.mk (kk + 2) av e th t2 b mv).at_ (EO.mk (kk + 2) av e th t2 b mv).e (EO.mk (kk + 2) av e th t2 b mv).th).L.w = (etDo2 x j (EO.mk (kk + 2) av e th t2 b mv)).S.L.w,
 (eS2 x.S (EO.mk (kk + 2) av e th t2 b mv).at_ (EO.mk (kk + 2) av e th t2 b mv).e (EO.mk (kk + 2) av e th t2 b mv).th).L.i = (etDo2 x j (EO.mk (kk + 2) av e th t2 b mv)).S.L.i,
 (eS2 x.S (EO.mk (kk + 2) av e th t2 b mv).at_ (EO.mk (kk + 2) av e th t2 b mv).e (EO.mk (kk + 2) av e th t2 b mv).th).L.d = (etDo2 x j (EO.mk (kk + 2) av e th t2 b mv)).S.L.d,
 ∀ (k : List Int), (eS2 x.S (EO.mk (kk + 2) av e th t2 b mv).at_ (EO.mk (kk + 2) av e th t2 b mv).e (EO.mk (kk + 2) av e th t2 b mv).th).M k = (etDo2 x j (EO.mk (kk + 2) av e th t2 b mv)).S.M k,
 (0 : Nat) = 0,
 (eR2 x.R (EO.mk (kk + 2) av e th t2 b mv).at_ (EO.mk (kk + 2) av e th t2 b mv).e (EO.mk (kk + 2) av e th t2 b mv).th).D.n = (etDo2 x j (EO.mk (kk + 2) av e th t2 b mv)).R.D.n,
 (none : Option Nat) = none,
 (eR2 x.R (EO.mk (kk + 2) av e th t2 b mv).at_ (EO.mk (kk + 2) av e th t2 b mv).e (EO.mk (kk + 2) av e th t2 b mv).th).st = (etDo2 x j (EO.mk (kk + 2) av e th t2 b mv)).R.st,
 (eR2 x.R (EO.mk (kk + 2) av e th t2 b mv).at_ (EO.mk (kk + 2) av e th t2 b mv).e (EO.mk (kk + 2) av e th t2 b mv).th).L.c = (etDo2 x j (EO.mk (kk + 2) av e th t2 b mv)).R.L.c,
 (eR2 x.R (EO.mk (kk + 2) av e th t2 b mv).at_ (EO.mk (kk + 2) av e th t2 b mv).e (EO.mk (kk + 2) av e th t2 b mv).th).L.k = (etDo2 x j (EO.mk (kk + 2) av e th t2 b mv)).R.L.k,
 (eR2 x.R (EO.mk (kk + 2) av e th t2 b mv).at_ (EO.mk (kk + 2) av e th t2 b mv).e (EO.mk (kk + 2) av e th t2 b mv).th).L.a = (etDo2 x j (EO.mk (kk + 2) av e th t2 b mv)).R.L.a,
 (eR2 x.R (EO.mk (kk + 2) av e th t2 b mv).at_ (EO.mk (kk + 2) av e th t2 b mv).e (EO.mk (kk + 2) av e th t2 b mv).th).L.f = (etDo2 x j (EO.mk (kk + 2) av e th t2 b mv)).R.L.f,
 (eR2 x.R (EO.mk (kk + 2) av e th t2 b mv).at_ (EO.mk (kk + 2) av e th t2 b mv).e (EO.mk (kk + 2) av e th t2 b mv).th).L.w = (etDo2 x j (EO.mk (kk + 2) av e th t2 b mv)).R.L.w,
 (eR2 x.R (EO.mk (kk + 2) av e th t2 b mv).at_ (EO.mk (kk + 2) av e th t2 b mv).e (EO.mk (kk + 2) av e th t2 b mv).th).L.i = (etDo2 x j (EO.mk (kk + 2) av e th t2 b mv)).R.L.i,
 (eR2 x.R (EO.mk (kk + 2) av e th t2 b mv).at_ (EO.mk (kk + 2) av e th t2 b mv).e (EO.mk (kk + 2) av e th t2 b mv).th).L.d = (etDo2 x j (EO.mk (kk + 2) av e th t2 b mv)).R.L.d,
 false = false,
 (etDo2 x j (EO.mk (kk + 2) av e th t2 b mv)).R.D.n ≤ (eR2 x.R (EO.mk (kk + 2) av e th t2 b mv).at_ (EO.mk (kk + 2) av e th t2 b mv).e (EO.mk (kk + 2) av e th t2 b mv).th).D.n,
 wdF (etDo2 x j (EO.mk (kk + 2) av e th t2 b mv)).R.D.W = wdF (eR2 x.R (EO.mk (kk + 2) av e th t2 b mv).at_ (EO.mk (kk + 2) av e th t2 b mv).e (EO.mk (kk + 2) av e th t2 b mv).th).D.W ∧ plainSh wSh = true ∨ ∀ (i : Nat), i < (etDo2 x j (EO.mk (kk + 2) av e th t2 b mv)).R.D.n → rowOb wSh 0 (wdF (eR2 x.R (EO.mk (kk + 2) av e th t2 b mv).at_ (EO.mk (kk + 2) av e th t2 b mv).e (EO.mk (kk + 2) av e th t2 b mv).th).D.W i) (wdF (etDo2 x j (EO.mk (kk + 2) av e th t2 b mv)).R.D.W i),
 Both (eS2 x.S (EO.mk (kk + 2) av e th t2 b mv).at_ (EO.mk (kk + 2) av e th t2 b mv).e (EO.mk (kk + 2) av e th t2 b mv).th) (eR2 x.R (EO.mk (kk + 2) av e th t2 b mv).at_ (EO.mk (kk + 2) av e th t2 b mv).e (EO.mk (kk + 2) av e th t2 b mv).th),
 x.R.D.n ≤ x.R.D.n,
 x.R.D.n ≤ 100000,
 Both x.S x.R,
 ∀ (k : List Int), 0 ≤ mget x.S.M k ∧ mget x.S.M k < 18446744073709551616,
 (2 : Int) = 2,
 (EO.mk (kk + 2) av e th t2 b mv).e = (EO.mk (kk + 2) av e th t2 b mv).e,
 (EO.mk (kk + 2) av e th t2 b mv).at_ = 0 ∨ (EO.mk (kk + 2) av e th t2 b mv).at_ = 1 ∨ (EO.mk (kk + 2) av e th t2 b mv).at_ = 2 ∨ (EO.mk (kk + 2) av e th t2 b mv).at_ = 3 ∨ (EO.mk (kk + 2) av e th t2 b mv).at_ = 4,
 (EO.mk (kk + 2) av e th t2 b mv).at_ = (EO.mk (kk + 2) av e th t2 b mv).at_,
 (EO.mk (kk + 2) av e th t2 b mv).th = (EO.mk (kk + 2) av e th t2 b mv).th,
 4 * (EO.mk (kk + 2) av e th t2 b mv).b = 4 * (EO.mk (kk + 2) av e th t2 b mv).b,
 (EO.mk (kk + 2) av e th t2 b mv).mv = (EO.mk (kk + 2) av e th t2 b mv).mv,
 (EO.mk (kk + 2) av e th t2 b mv).at_ = 2 → (EO.mk (kk + 2) av e th t2 b mv).th = 0,
 (EO.mk (kk + 2) av e th t2 b mv).at_ = 3 → 0 ≤ (EO.mk (kk + 2) av e th t2 b mv).th ∧ (EO.mk (kk + 2) av e th t2 b mv).th < 4 * (EO.mk (kk + 2) av e th t2 b mv).b ∧ (EO.mk (kk + 2) av e th t2 b mv).b ≤ 4,
 0 ≤ (EO.mk (kk + 2) av e th t2 b mv).e ∧ (EO.mk (kk + 2) av e th t2 b mv).e < 18446744073709551616,
 lrow 6703903964971298549787012499102923063739682910296196688861780721860882015036773488400937149083451713845015929093243025426876941405973284973216824503042048 2 (egT m f ii x).M j (0 + ((IntKind.u64.wrap (avInt (f (0 + ii) 1))).tmod (IntKind.u64.wrap (Int.ofNat x.n))).toNat) 3 = AV.ptr 901 0 0,
 lrow 6703903964971298549787012499102923063739682910296196688861780721860882015036773488400937149083451713845015929093243025426876941405973284973216824503042048 2 (egT m f ii x).M j (0 + ((IntKind.u64.wrap (avInt (f (0 + ii) 1))).tmod (IntKind.u64.wrap (Int.ofNat x.n))).toNat) 2 = AV.ptr 900 0 0,
 lrow 6703903964971298549787012499102923063739682910296196688861780721860882015036773488400937149083451713845015929093243025426876941405973284973216824503042048 2 (egT m f ii x).M j (0 + ((IntKind.u64.wrap (avInt (f (0 + ii) 1))).tmod (IntKind.u64.wrap (Int.ofNat x.n))).toNat) 1 = AV.nilp,
 lrow 6703903964971298549787012499102923063739682910296196688861780721860882015036773488400937149083451713845015929093243025426876941405973284973216824503042048 2 (egT m f ii x).M j (0 + ((IntKind.u64.wrap (avInt (f (0 + ii) 1))).tmod (IntKind.u64.wrap (Int.ofNat x.n))).toNat) 0 = AV.nilp,
 (0 + ((IntKind.u64.wrap (avInt (f (0 + ii) 1))).tmod (IntKind.u64.wrap (Int.ofNat x.n))).toNat).blt (egT m f ii x).n = true,
 (((IntKind.u64.wrap (avInt (f (0 + ii) 1))).tmod (IntKind.u64.wrap (Int.ofNat x.n))).toNat.blt x.n && decide (0 ≤ (IntKind.u64.wrap (avInt (f (0 + ii) 1))).tmod (IntKind.u64.wrap (Int.ofNat x.n)))) = true,
 decide (IntKind.u64.wrap (Int.ofNat x.n) ≠ 0) = true,
 decide (Int.ofNat x.n > 0) = true,
 ((IntKind.i64.wrap (avInt (f (0 + ii) 0))).tmod 8 == 3) = false,
 ((IntKind.i64.wrap (avInt (f (0 + ii) 0))).tmod 8 == 2) = false,
 ((IntKind.i64.wrap (avInt (f (0 + ii) 0))).tmod 8 == 1) = false,
 ((IntKind.i64.wrap (avInt (f (0 + ii) 0))).tmod 8 == 0) = false,
 (0 + ii).blt m = true,
 (ii.blt m && decide (0 ≤ Int.ofNat ii)) = true,
 decide (Int.ofNat ii < Int.ofNat m) = true]) := by kernel_rfl
theorem ege_1 (m : Nat) (f : Nat → Nat → AV) (q : Nat) (h : Nat → Nat → AV) (ii : Nat) (x : ET) : roundB EEg 3000 egL ((egU m f q h).hp) [(9, Src.nm 9)] (locSt egF (egT m f ii x) false (eMb (x.O x.n)) x.n []) [Hint.b false] (egX m f x.S x.R) =
 some (Ex.exit 0, [(0 : Nat) = 0,
 m = m,
 (none : Option Nat) = none,
 (0 : Nat) = 0,
 (0 : Nat) = 0,
 (0 : Nat) = 0,
 (0 : Nat) = 0,
 (0 : Nat) = 0,
 (0 : Nat) = 0,
 true = true,
 m ≤ m,
 f = f ∧ plainSh acSh = true ∨ ∀ (i : Nat), i < m → rowOb acSh 0 (f i) (f i),
 x.S.st = x.S.st,
 x.S.L.c = x.S.L.c,
 x.S.L.k = x.S.L.k,
 x.S.L.a = x.S.L.a,
 x.S.L.f = x.S.L.f,
 x.S.L.w = x.S.L.w,
 x.S.L.i = x.S.L.i,
 x.S.L.d = x.S.L.d,
 ∀ (k : List Int), x.S.M k = x.S.M k,
 (0 : Nat) = 0,
 x.R.D.n = x.R.D.n,
 (none : Option Nat) = none,
 x.R.st = x.R.st,
 x.R.L.c = x.R.L.c,
 x.R.L.k = x.R.L.k,
 x.R.L.a = x.R.L.a,
 x.R.L.f = x.R.L.f,
 x.R.L.w = x.R.L.w,
 x.R.L.i = x.R.L.i,
 x.R.L.d = x.R.L.d,
 false = false,
 x.R.D.n ≤ x.R.D.n,
 wdF x.R.D.W = wdF x.R.D.W ∧ plainSh wSh = true ∨ ∀ (i : Nat), i < x.R.D.n → rowOb wSh 0 (wdF x.R.D.W i) (wdF x.R.D.W i),
 decide (Int.ofNat ii < Int.ofNat m) = false]) := by kernel_rfl
theorem egi_1 (m : Nat) (f : Nat → Nat → AV) (q : Nat) (h : Nat → Nat → AV) : castSt (h0F egF (egU m f q h)) [(8, Src.nil 4), (9, Src.nm 6)] (egU m f q h) (locSt egF (egT m f 0 (etN f h q 0)) false (Mb.mk [] []) 0 []) =
 some ([(0 : Nat) = 0,
 m = m,
 (none : Option Nat) = none,
 (0 : Nat) = 0,
 (0 : Nat) = 0,
 (0 : Nat) = 0,
 (0 : Nat) = 0,
 (none : Option Nat) = none,
 (0 : Int) = 0,
 (0 : Nat) = 0,
 (0 : Nat) = 0,
 (0 : Nat) = 0,
 (0 : Nat) = 0,
 (0 : Nat) = 0,
 true = true,
 m ≤ m,
 f = f ∧ plainSh acSh = true ∨ ∀ (i : Nat), i < m → rowOb acSh 0 (f i) (f i),
 (msN (bgW h) q).st = (etN f h q 0).S.st,
 (msN (bgW h) q).L.c = (etN f h q 0).S.L.c,
 (msN (bgW h) q).L.k = (etN f h q 0).S.L.k,
 (msN (bgW h) q).L.a = (etN f h q 0).S.L.a,
 (msN (bgW h) q).L.f = (etN f h q 0).S.L.f,
 (msN (bgW h) q).L.w = (etN f h q 0).S.L.w,
 (msN (bgW h) q).L.i = (etN f h q 0).S.L.i,
 (msN (bgW h) q).L.d = (etN f h q 0).S.L.d,
 ∀ (k : List Int), (msN (bgW h) q).M k = (etN f h q 0).S.M k,
 (0 : Nat) = 0,
 (rsN (bgW h) q).D.n = (etN f h q 0).R.D.n,
 (none : Option Nat) = none,
 (rsN (bgW h) q).st = (etN f h q 0).R.st,
 (rsN (bgW h) q).L.c = (etN f h q 0).R.L.c,
 (rsN (bgW h) q).L.k = (etN f h q 0).R.L.k,
 (rsN (bgW h) q).L.a = (etN f h q 0).R.L.a,
 (rsN (bgW h) q).L.f = (etN f h q 0).R.L.f,
 (rsN (bgW h) q).L.w = (etN f h q 0).R.L.w,
 (rsN (bgW h) q).L.i = (etN f h q 0).R.L.i,
 (rsN (bgW h) q).L.d = (etN f h q 0).R.L.d,
 false = false,
 (etN f h q 0).R.D.n ≤ (rsN (bgW h) q).D.n,
 wdF (etN f h q 0).R.D.W = wdF (rsN (bgW h) q).D.W ∧ plainSh wSh = true ∨ ∀ (i : Nat), i < (etN f h q 0).R.D.n → rowOb wSh 0 (wdF (rsN (bgW h) q).D.W i) (wdF (etN f h q 0).R.D.W i)]) := by kernel_rfl
set_option maxHeartbeats 2000000 in
theorem eg_lp (m : Nat) (f : Nat → Nat → AV) (q : Nat) (h : Nat → Nat → AV) (hm : m ≤ 300) (hq : q ≤ 300) (hr : ∀ i, i < m → 0 ≤ avInt (f i 2) ∧ 0 ≤ avInt (f i 5) ∧ avInt (f i 5) < 18446744073709551616 ∧ 0 ≤ avInt (f i 0) ∧ avInt (f i 0) < 256) (hh : ∀ i, i < q → 0 ≤ avInt (h i 3) ∧ avInt (h i 3) < 18446744073709551616) : egLP m f q h := by
  have hU : U64 (msN (bgW h) q) := msN_u q hh
  refine fam_rule EEg_ok egFam ⟨by show 8 ≤ 900; omega, rfl, fun n o hg => .inl (ltAll_get _ rfl n o hg)⟩ (fun z : Nat × ET => egT m f z.1 z.2) (fun z => m - z.1) (fun z => z.1 ≤ m ∧ z.2 = etN f h q z.1) (fun z hz => ?_) ?_ (fun z hz => ?_)
  · obtain ⟨ii, x⟩ := z
    obtain ⟨h1, h2⟩ := hz
    have h1 : ii ≤ m := h1
    have h2 : x = etN f h q ii := h2
    have := (etN_ok (f := f) (h := h) hU ii (fun k hk => (hr k (by omega)).2.imp id (fun z => z.1))).n
    rw [← h2] at this
    exact egOk (x := x) (by omega)
  ·
    refine ⟨(0, etN f h q 0), [(8, Src.nil 4), (9, Src.nm 6)], _, ⟨Nat.zero_le _, rfl⟩, (fun k hk => absurd hk (Nat.not_lt_zero k)), egi_1 .., (ob_cons rfl (ob_cons rfl (ob_cons rfl (ob_cons rfl (ob_cons rfl (ob_cons rfl (ob_cons rfl (ob_cons rfl (ob_cons rfl (ob_cons rfl (ob_cons rfl (ob_cons rfl (ob_cons rfl (ob_cons rfl (ob_cons rfl (ob_cons (Nat.le_refl _) (ob_cons (.inl ⟨rfl, rfl⟩) (ob_cons ?_ (ob_cons ?_ (ob_cons ?_ (ob_cons ?_ (ob_cons ?_ (ob_cons ?_ (ob_cons ?_ (ob_cons ?_ (ob_cons ?_ (ob_cons rfl (ob_cons ?_ (ob_cons rfl (ob_cons ?_ (ob_cons ?_ (ob_cons ?_ (ob_cons ?_ (ob_cons ?_ (ob_cons ?_ (ob_cons ?_ (ob_cons ?_ (ob_cons rfl (ob_cons ?_ (ob_cons ?_ ob_nil))))))))))))))))))))))))))))))))))))))))⟩
    · exact rfl
    · exact rfl
    · exact rfl
    · exact rfl
    · exact rfl
    · exact rfl
    · exact rfl
    · exact rfl
    · exact fun _ => rfl
    · exact rfl
    · exact rfl
    · exact rfl
    · exact rfl
    · exact rfl
    · exact rfl
    · exact rfl
    · exact rfl
    · exact rfl
    · exact Nat.le_refl _
    · exact .inl ⟨rfl, rfl⟩
  · obtain ⟨ii, x⟩ := z
    obtain ⟨hi, hx⟩ := hz
    have hi : ii ≤ m := hi
    have hx : x = etN f h q ii := hx
    have hE := etN_ok (f := f) (h := h) hU ii (fun k hk => (hr k (by omega)).2.imp id (fun z => z.1))
    rw [← hx] at hE
    by_cases hin : ii < m
    · have hnum := hE.f.fine.num
      have hn := hE.n
      have hb := hE.f.fine.both
      have hu : ∀ k, 0 ≤ mget x.S.M k ∧ mget x.S.M k < 18446744073709551616 := hE.f.u
      have hri := hr ii hin
      have hnble : (0 + x.n).ble (egT m f ii x).n = true := by rw [Nat.zero_add]; exact Nat.ble_eq_true_of_le (Nat.le_refl x.n)
      have hk2 : 0 ≤ avInt (f (0 + ii) 2) := by rw [Nat.zero_add]; exact hri.1
      have hwi : IntKind.i64.wrap (Int.ofNat ii + 1) = Int.ofNat (ii + 1) := wrap_nat64 _ (by simp; omega) (by simp; omega)
      have hnx : ∀ y, y = etStep (f (0 + ii)) x → (fun z : Nat × ET => z.1 ≤ m ∧ z.2 = etN f h q z.1) (ii + 1, y) := fun y e => ⟨by show ii + 1 ≤ m; omega, by show y = etStep (f ii) (etN f h q ii); rw [e, hx, Nat.zero_add]⟩
      by_cases hk0 : (IntKind.i64.wrap (avInt (f (0 + ii) 0))).tmod 8 = 0
      · have hok := hnx (etAdd x (eNew 0 (avInt (f (0 + ii) 1)))) (by unfold etStep; rw [if_pos hk0])
        have hkd := hk0
        have hnl := nl_ln (avInt (f (0 + ii) 1))
        refine fam_norm (F := egF) (s0 := egU m f q h) (X := Nat × ET) (T := fun z => egT m f z.1 z.2) (x := (ii, x)) (ii + 1, etAdd x (eNew 0 (avInt (f (0 + ii) 1)))) x.n false true (eg0_1 ..) (ob_cons rfl (ob_cons rfl (ob_cons rfl (ob_cons rfl (ob_cons rfl (ob_cons rfl (ob_cons ?_ (ob_cons rfl (ob_cons ?_ (ob_cons ?_ (ob_cons rfl (ob_cons ?_ (ob_cons rfl (ob_cons ?_ (ob_cons ?_ (ob_cons ?_ (ob_cons rfl (ob_cons rfl (ob_cons rfl (ob_cons ?_ (ob_cons ?_ (ob_cons rfl (ob_cons rfl (ob_cons rfl (ob_cons rfl (ob_cons rfl (ob_cons (Nat.le_refl _) (ob_cons (.inl ⟨rfl, rfl⟩) (ob_cons ?_ (ob_cons ?_ (ob_cons ?_ (ob_cons ?_ (ob_cons ?_ (ob_cons ?_ (ob_cons ?_ (ob_cons ?_ (ob_cons ?_ (ob_cons rfl (ob_cons ?_ (ob_cons rfl (ob_cons ?_ (ob_cons ?_ (ob_cons ?_ (ob_cons ?_ (ob_cons ?_ (ob_cons ?_ (ob_cons ?_ (ob_cons ?_ (ob_cons rfl (ob_cons ?_ (ob_cons ?_ (ob_cons ?_ (ob_cons ?_ (ob_cons ?_ (ob_cons ?_ (ob_cons ?_ (ob_cons ?_ (ob_cons ?_ ob_nil)))))))))))))))))))))))))))))))))))))))))))))))))))))))))) (fun h => by cases h) rfl hok (by show m - (ii + 1) < m - ii; omega) (by show eMb (if x.n = x.n then _ else _) = _; rw [if_pos rfl]) (.inl ⟨rfl, Nat.lt_succ_self _⟩) (fun i hi hne => ⟨(by have hi : i < x.n + 1 := hi; show i < x.n; omega), (by show eMb (if i = x.n then _ else _) = eMb _; rw [if_neg hne])⟩)
        · exact rfl
        · assumption
        · exact rfl
        · exact rfl
        · exact rfl
        · assumption
        · exact rfl
        · exact Nat.le_refl _
        · exact eg_add (k := 0) rfl rfl rfl _ rfl (fun _ _ => rfl)
        · exact rfl
        · exact rfl
        · exact rfl
        · exact rfl
        · exact rfl
        · exact rfl
        · exact rfl
        · exact rfl
        · exact fun _ => rfl
        · exact rfl
        · exact rfl
        · exact rfl
        · exact rfl
        · exact rfl
        · exact rfl
        · exact rfl
        · exact rfl
        · exact rfl
        · exact Nat.le_refl _
        · exact .inl ⟨rfl, rfl⟩
        · assumption
        · (simp [Nat.blt_eq]; omega)
        · assumption
        · assumption
        · (simp [Nat.blt_eq]; omega)
        · (simp [Nat.blt_eq]; omega)
        · (simp [Nat.blt_eq]; omega)
      by_cases hk1 : (IntKind.i64.wrap (avInt (f (0 + ii) 0))).tmod 8 = 1
      · have hok := hnx (etAdd x (eNew 1 (avInt (f (0 + ii) 1)))) (by unfold etStep; rw [if_neg hk0, if_pos hk1])
        have hkd := hk1
        refine fam_norm (F := egF) (s0 := egU m f q h) (X := Nat × ET) (T := fun z => egT m f z.1 z.2) (x := (ii, x)) (ii + 1, etAdd x (eNew 1 (avInt (f (0 + ii) 1)))) x.n false true (eg1_1 ..) (ob_cons rfl (ob_cons rfl (ob_cons rfl (ob_cons rfl (ob_cons rfl (ob_cons rfl (ob_cons ?_ (ob_cons rfl (ob_cons ?_ (ob_cons ?_ (ob_cons rfl (ob_cons ?_ (ob_cons rfl (ob_cons ?_ (ob_cons ?_ (ob_cons ?_ (ob_cons rfl (ob_cons rfl (ob_cons rfl (ob_cons ?_ (ob_cons ?_ (ob_cons rfl (ob_cons rfl (ob_cons rfl (ob_cons rfl (ob_cons rfl (ob_cons (Nat.le_refl _) (ob_cons (.inl ⟨rfl, rfl⟩) (ob_cons ?_ (ob_cons ?_ (ob_cons ?_ (ob_cons ?_ (ob_cons ?_ (ob_cons ?_ (ob_cons ?_ (ob_cons ?_ (ob_cons ?_ (ob_cons rfl (ob_cons ?_ (ob_cons rfl (ob_cons ?_ (ob_cons ?_ (ob_cons ?_ (ob_cons ?_ (ob_cons ?_ (ob_cons ?_ (ob_cons ?_ (ob_cons ?_ (ob_cons rfl (ob_cons ?_ (ob_cons ?_ (ob_cons ?_ (ob_cons ?_ (ob_cons ?_ (ob_cons ?_ (ob_cons ?_ (ob_cons ?_ (ob_cons ?_ ob_nil)))))))))))))))))))))))))))))))))))))))))))))))))))))))))) (fun h => by cases h) rfl hok (by show m - (ii + 1) < m - ii; omega) (by show eMb (if x.n = x.n then _ else _) = _; rw [if_pos rfl]) (.inl ⟨rfl, Nat.lt_succ_self _⟩) (fun i hi hne => ⟨(by have hi : i < x.n + 1 := hi; show i < x.n; omega), (by show eMb (if i = x.n then _ else _) = eMb _; rw [if_neg hne])⟩)
        · exact rfl
        · assumption
        · exact rfl
        · exact rfl
        · exact rfl
        · exact rfl
        · exact rfl
        · exact Nat.le_refl _
        · exact eg_add (k := 1) rfl rfl rfl _ rfl (fun _ _ => rfl)
        · exact rfl
        · exact rfl
        · exact rfl
        · exact rfl
        · exact rfl
        · exact rfl
        · exact rfl
        · exact rfl
        · exact fun _ => rfl
        · exact rfl
        · exact rfl
        · exact rfl
        · exact rfl
        · exact rfl
        · exact rfl
        · exact rfl
        · exact rfl
        · exact rfl
        · exact Nat.le_refl _
        · exact .inl ⟨rfl, rfl⟩
        · assumption
        · (simp [Nat.blt_eq]; omega)
        · assumption
        · assumption
        · (simp [Nat.blt_eq]; omega)
        · (simp [Nat.blt_eq]; omega)
        · (simp [Nat.blt_eq]; omega)
      by_cases hk2n : (IntKind.i64.wrap (avInt (f (0 + ii) 0))).tmod 8 = 2
      · have hok := hnx (etAdd x (eNew 2 (avInt (f (0 + ii) 1)))) (by unfold etStep; rw [if_neg hk0, if_neg hk1, if_pos hk2n])
        have hkd := hk2n
        refine fam_norm (F := egF) (s0 := egU m f q h) (X := Nat × ET) (T := fun z => egT m f z.1 z.2) (x := (ii, x)) (ii + 1, etAdd x (eNew 2 (avInt (f (0 + ii) 1)))) x.n false true (eg2_1 ..) (ob_cons rfl (ob_cons rfl (ob_cons rfl (ob_cons rfl (ob_cons rfl (ob_cons rfl (ob_cons ?_ (ob_cons rfl (ob_cons ?_ (ob_cons rfl (ob_cons rfl (ob_cons rfl (ob_cons rfl (ob_cons ?_ (ob_cons rfl (ob_cons rfl (ob_cons rfl (ob_cons ?_ (ob_cons rfl (ob_cons rfl (ob_cons rfl (ob_cons ?_ (ob_cons ?_ (ob_cons rfl (ob_cons rfl (ob_cons rfl (ob_cons rfl (ob_cons rfl (ob_cons (Nat.le_refl _) (ob_cons (.inl ⟨rfl, rfl⟩) (ob_cons ?_ (ob_cons ?_ (ob_cons ?_ (ob_cons ?_ (ob_cons ?_ (ob_cons ?_ (ob_cons ?_ (ob_cons ?_ (ob_cons ?_ (ob_cons rfl (ob_cons ?_ (ob_cons rfl (ob_cons ?_ (ob_cons ?_ (ob_cons ?_ (ob_cons ?_ (ob_cons ?_ (ob_cons ?_ (ob_cons ?_ (ob_cons ?_ (ob_cons rfl (ob_cons ?_ (ob_cons ?_ (ob_cons ?_ (ob_cons ?_ (ob_cons ?_ (ob_cons ?_ (ob_cons ?_ (ob_cons ?_ (ob_cons ?_ ob_nil)))))))))))))))))))))))))))))))))))))))))))))))))))))))))))) (fun h => by cases h) rfl hok (by show m - (ii + 1) < m - ii; omega) (by show eMb (if x.n = x.n then _ else _) = _; rw [if_pos rfl]) (.inl ⟨rfl, Nat.lt_succ_self _⟩) (fun i hi hne => ⟨(by have hi : i < x.n + 1 := hi; show i < x.n; omega), (by show eMb (if i = x.n then _ else _) = eMb _; rw [if_neg hne])⟩)
        · exact rfl
        · assumption
        · exact rfl
        · exact rfl
        · exact Nat.le_refl _
        · exact eg_add (k := 2) rfl rfl rfl _ rfl (fun _ _ => rfl)
        · exact rfl
        · exact rfl
        · exact rfl
        · exact rfl
        · exact rfl
        · exact rfl
        · exact rfl
        · exact rfl
        · exact fun _ => rfl
        · exact rfl
        · exact rfl
        · exact rfl
        · exact rfl
        · exact rfl
        · exact rfl
        · exact rfl
        · exact rfl
        · exact rfl
        · exact Nat.le_refl _
        · exact .inl ⟨rfl, rfl⟩
        · assumption
        · (simp [Nat.blt_eq]; omega)
        · assumption
        · assumption
        · (simp [Nat.blt_eq]; omega)
        · (simp [Nat.blt_eq]; omega)
        · (simp [Nat.blt_eq]; omega)
      by_cases hk3 : (IntKind.i64.wrap (avInt (f (0 + ii) 0))).tmod 8 = 3
      · have hok := hnx (ET.mk (mStore x.S (avInt (f (0 + ii) 2)) (avInt (f (0 + ii) 3)) (avInt (f (0 + ii) 4)) (avInt (f (0 + ii) 5))) (rStore x.R (avInt (f (0 + ii) 2)) (avInt (f (0 + ii) 3)) (avInt (f (0 + ii) 4)) (avInt (f (0 + ii) 5))) x.n x.O) (by unfold etStep; rw [if_neg hk0, if_neg hk1, if_neg hk2n, if_pos hk3])
        have hbS := hb.store (avInt (f (0 + ii) 2)) (avInt (f (0 + ii) 3)) (avInt (f (0 + ii) 4)) (avInt (f (0 + ii) 5))
        refine fam_norm (F := egF) (s0 := egU m f q h) (X := Nat × ET) (T := fun z => egT m f z.1 z.2) (x := (ii, x)) (ii + 1, (ET.mk (mStore x.S (avInt (f (0 + ii) 2)) (avInt (f (0 + ii) 3)) (avInt (f (0 + ii) 4)) (avInt (f (0 + ii) 5))) (rStore x.R (avInt (f (0 + ii) 2)) (avInt (f (0 + ii) 3)) (avInt (f (0 + ii) 4)) (avInt (f (0 + ii) 5))) x.n x.O)) x.n false false (eg3_1 ..) (ob_cons rfl (ob_cons rfl (ob_cons rfl (ob_cons rfl (ob_cons rfl (ob_cons rfl (ob_cons ?_ (ob_cons rfl (ob_cons ?_ (ob_cons rfl (ob_cons ?_ (ob_cons ?_ (ob_cons rfl (ob_cons rfl (ob_cons rfl (ob_cons rfl (ob_cons rfl (ob_cons (Nat.le_refl _) (ob_cons (.inl ⟨rfl, rfl⟩) (ob_cons ?_ (ob_cons rfl (ob_cons ?_ (ob_cons ?_ (ob_cons ?_ (ob_cons ?_ (ob_cons ?_ (ob_cons ?_ (ob_cons ?_ (ob_cons rfl (ob_cons ?_ (ob_cons rfl (ob_cons ?_ (ob_cons rfl (ob_cons ?_ (ob_cons ?_ (ob_cons ?_ (ob_cons ?_ (ob_cons ?_ (ob_cons ?_ (ob_cons rfl (ob_cons ?_ (ob_cons ?_ (ob_cons ?_ (ob_cons (Nat.le_refl _) (ob_cons ?_ (ob_cons ?_ (ob_cons ?_ (ob_cons ?_ (ob_cons ?_ (ob_cons ?_ (ob_cons ?_ (ob_cons ?_ (ob_cons ?_ ob_nil))))))))))))))))))))))))))))))))))))))))))))))))))))) (fun h => by cases h) rfl hok (by show m - (ii + 1) < m - ii; omega) rfl (.inr ⟨rfl, Nat.le_refl _⟩) (fun i hi hne => ⟨hi, rfl⟩)
        · exact rfl
        · assumption
        · exact Nat.le_refl _
        · exact eg_no rfl (Nat.le_refl _) rfl (fun _ => rfl)
        · exact rfl
        · exact rfl
        · exact rfl
        · exact rfl
        · exact rfl
        · exact rfl
        · exact rfl
        · exact fun _ => rfl
        · exact rfl
        · exact rfl
        · exact rfl
        · exact rfl
        · exact rfl
        · exact rfl
        · exact rfl
        · exact rfl
        · exact Nat.le_refl _
        · exact .inl ⟨rfl, rfl⟩
        · assumption
        · (simp [Nat.blt_eq]; omega)
        · assumption
        · exact eqT hk3
        · exact eqF hk2n
        · exact eqF hk1
        · exact eqF hk0
        · (simp [Nat.blt_eq]; omega)
        · (simp [Nat.blt_eq]; omega)
        · (simp [Nat.blt_eq]; omega)
      by_cases hn0 : x.n = 0
      · have hok := hnx x (by unfold etStep; rw [if_neg hk0, if_neg hk1, if_neg hk2n, if_neg hk3, if_pos hn0])
        refine fam_norm (F := egF) (s0 := egU m f q h) (X := Nat × ET) (T := fun z => egT m f z.1 z.2) (x := (ii, x)) (ii + 1, x) x.n false false (eg4_1 ..) (ob_cons rfl (ob_cons rfl (ob_cons rfl (ob_cons rfl (ob_cons rfl (ob_cons rfl (ob_cons rfl (ob_cons rfl (ob_cons ?_ (ob_cons rfl (ob_cons ?_ (ob_cons ?_ (ob_cons rfl (ob_cons rfl (ob_cons rfl (ob_cons rfl (ob_cons rfl (ob_cons (Nat.le_refl _) (ob_cons (.inl ⟨rfl, rfl⟩) (ob_cons rfl (ob_cons rfl (ob_cons rfl (ob_cons rfl (ob_cons rfl (ob_cons rfl (ob_cons rfl (ob_cons rfl (ob_cons (fun _ => rfl) (ob_cons rfl (ob_cons rfl (ob_cons rfl (ob_cons rfl (ob_cons rfl (ob_cons rfl (ob_cons rfl (ob_cons rfl (ob_cons rfl (ob_cons rfl (ob_cons rfl (ob_cons rfl (ob_cons (Nat.le_refl _) (ob_cons (.inl ⟨rfl, rfl⟩) (ob_cons ?_ (ob_cons ?_ (ob_cons ?_ (ob_cons ?_ (ob_cons ?_ (ob_cons ?_ (ob_cons ?_ (ob_cons ?_ (ob_cons ?_ ob_nil))))))))))))))))))))))))))))))))))))))))))))))))))) (fun h => by cases h) rfl hok (by show m - (ii + 1) < m - ii; omega) rfl (.inr ⟨rfl, Nat.le_refl _⟩) (fun i hi hne => ⟨hi, rfl⟩)
        · assumption
        · exact Nat.le_refl _
        · exact eg_no rfl (Nat.le_refl _) rfl (fun _ => rfl)
        · assumption
        · (simp [Nat.blt_eq]; omega)
        · exact eqF hk3
        · exact eqF hk2n
        · exact eqF hk1
        · exact eqF hk0
        · (simp [Nat.blt_eq]; omega)
        · (simp [Nat.blt_eq]; omega)
        · (simp [Nat.blt_eq]; omega)
      have hjx := jX_lt (f (0 + ii)) hn0 (by omega)
      generalize hj : jX (f (0 + ii)) x.n = j at hjx
      obtain ⟨hjn, hjr⟩ := hjx
      have hok := hnx (etDo2 x j (x.O j)) (by unfold etStep; rw [if_neg hk0, if_neg hk1, if_neg hk2n, if_neg hk3, if_neg hn0, hj]; rfl)
      have hjb : (0 + ((IntKind.u64.wrap (avInt (f (0 + ii) 1))).tmod (IntKind.u64.wrap (Int.ofNat x.n))).toNat).blt (egT m f ii x).n = true := by
        rw [Nat.zero_add, show ((IntKind.u64.wrap (avInt (f (0 + ii) 1))).tmod (IntKind.u64.wrap (Int.ofNat x.n))).toNat = j from hj]; exact (by simpa [Nat.blt_eq] using hjn : Nat.blt j x.n = true)
      have hjb2 : (((IntKind.u64.wrap (avInt (f (0 + ii) 1))).tmod (IntKind.u64.wrap (Int.ofNat x.n))).toNat.blt x.n && decide (0 ≤ (IntKind.u64.wrap (avInt (f (0 + ii) 1))).tmod (IntKind.u64.wrap (Int.ofNat x.n)))) = true := by
        rw [show ((IntKind.u64.wrap (avInt (f (0 + ii) 1))).tmod (IntKind.u64.wrap (Int.ofNat x.n))).toNat = j from hj, Bool.and_eq_true]
        exact ⟨by simpa [Nat.blt_eq] using hjn, decide_eq_true hjr⟩
      have hnw : decide (IntKind.u64.wrap (Int.ofNat x.n) ≠ 0) = true := by
        rw [u64w (by simp) (by simp; omega)]
        exact decide_eq_true (by simp; omega)
      have hnr : decide (Int.ofNat x.n > 0) = true := decide_eq_true (by simp; omega)
      have hl : ∀ c, lrow egF.b0 2 (egT m f ii x).M j (0 + ((IntKind.u64.wrap (avInt (f (0 + ii) 1))).tmod (IntKind.u64.wrap (Int.ofNat x.n))).toNat) c = mrow 2 900 (eMb (x.O j)) c := fun c => by
        rw [Nat.zero_add, show ((IntKind.u64.wrap (avInt (f (0 + ii) 1))).tmod (IntKind.u64.wrap (Int.ofNat x.n))).toNat = j from hj]
        exact lrow_j rfl
      have hoo := hE.o j
      have hbS := (eo_mem hE.f (x.O j)).fine.both
      generalize ho : x.O j = oj at hl hoo hok hbS
      obtain ⟨k, av, e, th, t2, b, mv⟩ := oj
      obtain ⟨ho5, hoo⟩ := hoo
      match k, ho, hl, hoo, hok, hbS with
      | 0, ho, hl, hoo, hok, hbS =>
        obtain ⟨ho0, ho1⟩ := hoo
        have q0 : lrow 6703903964971298549787012499102923063739682910296196688861780721860882015036773488400937149083451713845015929093243025426876941405973284973216824503042048 2 (egT m f ii x).M j (0 + ((IntKind.u64.wrap (avInt (f (0 + ii) 1))).tmod (IntKind.u64.wrap (Int.ofNat x.n))).toNat) 0 = AV.ptr 900 0 0 := (hl 0).trans rfl
        have q1 : lrow 6703903964971298549787012499102923063739682910296196688861780721860882015036773488400937149083451713845015929093243025426876941405973284973216824503042048 2 (egT m f ii x).M j (0 + ((IntKind.u64.wrap (avInt (f (0 + ii) 1))).tmod (IntKind.u64.wrap (Int.ofNat x.n))).toNat) 1 = AV.nilp := (hl 1).trans rfl
        have q2 : lrow 6703903964971298549787012499102923063739682910296196688861780721860882015036773488400937149083451713845015929093243025426876941405973284973216824503042048 2 (egT m f ii x).M j (0 + ((IntKind.u64.wrap (avInt (f (0 + ii) 1))).tmod (IntKind.u64.wrap (Int.ofNat x.n))).toNat) 2 = AV.nilp := (hl 2).trans rfl
        have q3 : lrow 6703903964971298549787012499102923063739682910296196688861780721860882015036773488400937149083451713845015929093243025426876941405973284973216824503042048 2 (egT m f ii x).M j (0 + ((IntKind.u64.wrap (avInt (f (0 + ii) 1))).tmod (IntKind.u64.wrap (Int.ofNat x.n))).toNat) 3 = AV.ptr 901 0 0 := (hl 3).trans rfl
        clear hl
        refine fam_norm (F := egF) (s0 := egU m f q h) (X := Nat × ET) (T := fun z => egT m f z.1 z.2) (x := (ii, x)) (ii + 1, etDo2 x j (EO.mk 0 av e th t2 b mv)) j true true (eg5_1 ..) (ob_cons rfl (ob_cons rfl (ob_cons rfl (ob_cons rfl (ob_cons rfl (ob_cons rfl (ob_cons ?_ (ob_cons rfl (ob_cons ?_ (ob_cons ?_ (ob_cons ?_ (ob_cons ?_ (ob_cons rfl (ob_cons ?_ (ob_cons ?_ (ob_cons ?_ (ob_cons ?_ (ob_cons ?_ (ob_cons rfl (ob_cons ?_ (ob_cons ?_ (ob_cons rfl (ob_cons rfl (ob_cons rfl (ob_cons rfl (ob_cons rfl (ob_cons (Nat.le_refl _) (ob_cons (.inl ⟨rfl, rfl⟩) (ob_cons ?_ (ob_cons ?_ (ob_cons ?_ (ob_cons ?_ (ob_cons ?_ (ob_cons ?_ (ob_cons ?_ (ob_cons ?_ (ob_cons ?_ (ob_cons rfl (ob_cons ?_ (ob_cons rfl (ob_cons ?_ (ob_cons ?_ (ob_cons ?_ (ob_cons ?_ (ob_cons ?_ (ob_cons ?_ (ob_cons ?_ (ob_cons ?_ (ob_cons rfl (ob_cons ?_ (ob_cons ?_ (ob_cons ?_ (ob_cons (Nat.le_refl _) (ob_cons ?_ (ob_cons ?_ (ob_cons ?_ (ob_cons rfl (ob_cons rfl (ob_cons ?_ (ob_cons rfl (ob_cons ?_ (ob_cons ?_ (ob_cons ?_ (ob_cons ?_ (ob_cons ?_ (ob_cons ?_ (ob_cons ?_ (ob_cons ?_ (ob_cons ?_ (ob_cons ?_ (ob_cons ?_ (ob_cons ?_ (ob_cons ?_ (ob_cons ?_ (ob_cons ?_ (ob_cons ?_ (ob_cons ?_ ob_nil))))))))))))))))))))))))))))))))))))))))))))))))))))))))))))))))))))))))))))) (fun _ => hjn) (by show eMb (x.O j) = _; rw [ho]) hok (by show m - (ii + 1) < m - ii; omega) (by show eMb (if j = j then _ else _) = _; rw [if_pos rfl]) (.inl ⟨rfl, hjn⟩) (fun i hi hne => ⟨hi, (by show eMb (if i = j then _ else _) = eMb _; rw [if_neg hne])⟩)
        · exact rfl
        · assumption
        · exact rfl
        · exact rfl
        · exact rfl
        · exact rfl
        · exact rfl
        · exact rfl
        · exact rfl
        · exact rfl
        · exact Nat.le_refl _
        · exact eg_do rfl rfl rfl ho
        · exact rfl
        · exact rfl
        · exact rfl
        · exact rfl
        · exact rfl
        · exact rfl
        · exact rfl
        · exact rfl
        · exact fun _ => rfl
        · exact rfl
        · exact rfl
        · exact rfl
        · exact rfl
        · exact rfl
        · exact rfl
        · exact rfl
        · exact rfl
        · exact rfl
        · exact Nat.le_refl _
        · exact .inl ⟨rfl, rfl⟩
        · assumption
        · (simp [Nat.blt_eq]; omega)
        · assumption
        · assumption
        · assumption
        · assumption
        · assumption
        · assumption
        · assumption
        · assumption
        · assumption
        · assumption
        · assumption
        · assumption
        · assumption
        · exact eqF hk3
        · exact eqF hk2n
        · exact eqF hk1
        · exact eqF hk0
        · (simp [Nat.blt_eq]; omega)
        · (simp [Nat.blt_eq]; omega)
        · (simp [Nat.blt_eq]; omega)
      | 1, ho, hl, hoo, hok, hbS =>
        obtain ⟨ho0, ho1⟩ := hoo
        have q0 : lrow 6703903964971298549787012499102923063739682910296196688861780721860882015036773488400937149083451713845015929093243025426876941405973284973216824503042048 2 (egT m f ii x).M j (0 + ((IntKind.u64.wrap (avInt (f (0 + ii) 1))).tmod (IntKind.u64.wrap (Int.ofNat x.n))).toNat) 0 = AV.nilp := (hl 0).trans rfl
        have q1 : lrow 6703903964971298549787012499102923063739682910296196688861780721860882015036773488400937149083451713845015929093243025426876941405973284973216824503042048 2 (egT m f ii x).M j (0 + ((IntKind.u64.wrap (avInt (f (0 + ii) 1))).tmod (IntKind.u64.wrap (Int.ofNat x.n))).toNat) 1 = AV.ptr 900 0 0 := (hl 1).trans rfl
        have q2 : lrow 6703903964971298549787012499102923063739682910296196688861780721860882015036773488400937149083451713845015929093243025426876941405973284973216824503042048 2 (egT m f ii x).M j (0 + ((IntKind.u64.wrap (avInt (f (0 + ii) 1))).tmod (IntKind.u64.wrap (Int.ofNat x.n))).toNat) 2 = AV.nilp := (hl 2).trans rfl
        have q3 : lrow 6703903964971298549787012499102923063739682910296196688861780721860882015036773488400937149083451713845015929093243025426876941405973284973216824503042048 2 (egT m f ii x).M j (0 + ((IntKind.u64.wrap (avInt (f (0 + ii) 1))).tmod (IntKind.u64.wrap (Int.ofNat x.n))).toNat) 3 = AV.ptr 901 0 0 := (hl 3).trans rfl
        clear hl
        refine fam_norm (F := egF) (s0 := egU m f q h) (X := Nat × ET) (T := fun z => egT m f z.1 z.2) (x := (ii, x)) (ii + 1, etDo2 x j (EO.mk 1 av e th t2 b mv)) j true true (eg6_1 ..) (ob_cons rfl (ob_cons rfl (ob_cons rfl (ob_cons rfl (ob_cons rfl (ob_cons rfl (ob_cons ?_ (ob_cons rfl (ob_cons ?_ (ob_cons rfl (ob_cons ?_ (ob_cons ?_ (ob_cons rfl (ob_cons ?_ (ob_cons rfl (ob_cons ?_ (ob_cons ?_ (ob_cons ?_ (ob_cons rfl (ob_cons ?_ (ob_cons ?_ (ob_cons rfl (ob_cons rfl (ob_cons rfl (ob_cons rfl (ob_cons rfl (ob_cons (Nat.le_refl _) (ob_cons (.inl ⟨rfl, rfl⟩) (ob_cons ?_ (ob_cons ?_ (ob_cons ?_ (ob_cons ?_ (ob_cons ?_ (ob_cons ?_ (ob_cons ?_ (ob_cons ?_ (ob_cons ?_ (ob_cons rfl (ob_cons ?_ (ob_cons rfl (ob_cons ?_ (ob_cons ?_ (ob_cons ?_ (ob_cons ?_ (ob_cons ?_ (ob_cons ?_ (ob_cons ?_ (ob_cons ?_ (ob_cons rfl (ob_cons ?_ (ob_cons ?_ (ob_cons ?_ (ob_cons (Nat.le_refl _) (ob_cons ?_ (ob_cons ?_ (ob_cons ?_ (ob_cons rfl (ob_cons rfl (ob_cons ?_ (ob_cons rfl (ob_cons ?_ (ob_cons ?_ (ob_cons ?_ (ob_cons ?_ (ob_cons ?_ (ob_cons ?_ (ob_cons ?_ (ob_cons ?_ (ob_cons ?_ (ob_cons ?_ (ob_cons ?_ (ob_cons ?_ (ob_cons ?_ (ob_cons ?_ (ob_cons ?_ (ob_cons ?_ ob_nil)))))))))))))))))))))))))))))))))))))))))))))))))))))))))))))))))))))))))))) (fun _ => hjn) (by show eMb (x.O j) = _; rw [ho]) hok (by show m - (ii + 1) < m - ii; omega) (by show eMb (if j = j then _ else _) = _; rw [if_pos rfl]) (.inl ⟨rfl, hjn⟩) (fun i hi hne => ⟨hi, (by show eMb (if i = j then _ else _) = eMb _; rw [if_neg hne])⟩)
        · exact rfl
        · assumption
        · exact rfl
        · exact rfl
        · exact rfl
        · exact rfl
        · exact rfl
        · exact rfl
        · exact Nat.le_refl _
        · exact eg_do rfl rfl rfl ho
        · exact rfl
        · exact rfl
        · exact rfl
        · exact rfl
        · exact rfl
        · exact rfl
        · exact rfl
        · exact rfl
        · exact fun _ => rfl
        · exact rfl
        · exact rfl
        · exact rfl
        · exact rfl
        · exact rfl
        · exact rfl
        · exact rfl
        · exact rfl
        · exact rfl
        · exact Nat.le_refl _
        · exact .inl ⟨rfl, rfl⟩
        · assumption
        · (simp [Nat.blt_eq]; omega)
        · assumption
        · assumption
        · assumption
        · assumption
        · assumption
        · assumption
        · assumption
        · assumption
        · assumption
        · assumption
        · assumption
        · assumption
        · exact eqF hk3
        · exact eqF hk2n
        · exact eqF hk1
        · exact eqF hk0
        · (simp [Nat.blt_eq]; omega)
        · (simp [Nat.blt_eq]; omega)
        · (simp [Nat.blt_eq]; omega)
      | kk + 2, ho, hl, hoo, hok, hbS =>
        obtain ⟨ho0, ho1', ho2⟩ := hoo
        have ho1 := fun z => ho1' (.inr z)
        have q0 : lrow 6703903964971298549787012499102923063739682910296196688861780721860882015036773488400937149083451713845015929093243025426876941405973284973216824503042048 2 (egT m f ii x).M j (0 + ((IntKind.u64.wrap (avInt (f (0 + ii) 1))).tmod (IntKind.u64.wrap (Int.ofNat x.n))).toNat) 0 = AV.nilp := (hl 0).trans rfl
        have q1 : lrow 6703903964971298549787012499102923063739682910296196688861780721860882015036773488400937149083451713845015929093243025426876941405973284973216824503042048 2 (egT m f ii x).M j (0 + ((IntKind.u64.wrap (avInt (f (0 + ii) 1))).tmod (IntKind.u64.wrap (Int.ofNat x.n))).toNat) 1 = AV.nilp := (hl 1).trans rfl
        have q2 : lrow 6703903964971298549787012499102923063739682910296196688861780721860882015036773488400937149083451713845015929093243025426876941405973284973216824503042048 2 (egT m f ii x).M j (0 + ((IntKind.u64.wrap (avInt (f (0 + ii) 1))).tmod (IntKind.u64.wrap (Int.ofNat x.n))).toNat) 2 = AV.ptr 900 0 0 := (hl 2).trans rfl
        have q3 : lrow 6703903964971298549787012499102923063739682910296196688861780721860882015036773488400937149083451713845015929093243025426876941405973284973216824503042048 2 (egT m f ii x).M j (0 + ((IntKind.u64.wrap (avInt (f (0 + ii) 1))).tmod (IntKind.u64.wrap (Int.ofNat x.n))).toNat) 3 = AV.ptr 901 0 0 := (hl 3).trans rfl
        clear hl
        refine fam_norm (F := egF) (s0 := egU m f q h) (X := Nat × ET) (T := fun z => egT m f z.1 z.2) (x := (ii, x)) (ii + 1, etDo2 x j (EO.mk (kk + 2) av e th t2 b mv)) j true true (eg7_1 ..) (ob_cons rfl (ob_cons rfl (ob_cons rfl (ob_cons rfl (ob_cons rfl (ob_cons rfl (ob_cons ?_ (ob_cons rfl (ob_cons ?_ (ob_cons ?_ (ob_cons ?_ (ob_cons ?_ (ob_cons ?_ (ob_cons ?_ (ob_cons rfl (ob_cons ?_ (ob_cons ?_ (ob_cons ?_ (ob_cons ?_ (ob_cons ?_ (ob_cons rfl (ob_cons ?_ (ob_cons ?_ (ob_cons rfl (ob_cons rfl (ob_cons rfl (ob_cons rfl (ob_cons rfl (ob_cons (Nat.le_refl _) (ob_cons (.inl ⟨rfl, rfl⟩) (ob_cons ?_ (ob_cons ?_ (ob_cons ?_ (ob_cons ?_ (ob_cons ?_ (ob_cons ?_ (ob_cons ?_ (ob_cons ?_ (ob_cons ?_ (ob_cons rfl (ob_cons ?_ (ob_cons rfl (ob_cons ?_ (ob_cons ?_ (ob_cons ?_ (ob_cons ?_ (ob_cons ?_ (ob_cons ?_ (ob_cons ?_ (ob_cons ?_ (ob_cons rfl (ob_cons ?_ (ob_cons ?_ (ob_cons ?_ (ob_cons (Nat.le_refl _) (ob_cons ?_ (ob_cons ?_ (ob_cons ?_ (ob_cons rfl (ob_cons rfl (ob_cons ?_ (ob_cons rfl (ob_cons rfl (ob_cons rfl (ob_cons rfl (ob_cons ?_ (ob_cons ?_ (ob_cons ?_ (ob_cons ?_ (ob_cons ?_ (ob_cons ?_ (ob_cons ?_ (ob_cons ?_ (ob_cons ?_ (ob_cons ?_ (ob_cons ?_ (ob_cons ?_ (ob_cons ?_ (ob_cons ?_ (ob_cons ?_ (ob_cons ?_ (ob_cons ?_ (ob_cons ?_ ob_nil))))))))))))))))))))))))))))))))))))))))))))))))))))))))))))))))))))))))))))))))))) (fun _ => hjn) (by show eMb (x.O j) = _; rw [ho]) hok (by show m - (ii + 1) < m - ii; omega) (by show eMb (if j = j then _ else _) = _; rw [if_pos rfl]) (.inl ⟨rfl, hjn⟩) (fun i hi hne => ⟨hi, (by show eMb (if i = j then _ else _) = eMb _; rw [if_neg hne])⟩)
        · exact rfl
        · assumption
        · exact rfl
        · exact rfl
        · exact rfl
        · exact rfl
        · exact rfl
        · exact rfl
        · exact rfl
        · exact rfl
        · exact rfl
        · exact rfl
        · exact Nat.le_refl _
        · exact eg_do rfl rfl rfl ho
        · exact rfl
        · exact rfl
        · exact rfl
        · exact rfl
        · exact rfl
        · exact rfl
        · exact rfl
        · exact rfl
        · exact fun _ => rfl
        · exact rfl
        · exact rfl
        · exact rfl
        · exact rfl
        · exact rfl
        · exact rfl
        · exact rfl
        · exact rfl
        · exact rfl
        · exact Nat.le_refl _
        · exact .inl ⟨rfl, rfl⟩
        · assumption
        · (simp [Nat.blt_eq]; omega)
        · assumption
        · assumption
        · assumption
        · assumption
        · assumption
        · assumption
        · assumption
        · assumption
        · assumption
        · assumption
        · assumption
        · assumption
        · assumption
        · assumption
        · exact eqF hk3
        · exact eqF hk2n
        · exact eqF hk1
        · exact eqF hk0
        · (simp [Nat.blt_eq]; omega)
        · (simp [Nat.blt_eq]; omega)
        · (simp [Nat.blt_eq]; omega)
    · obtain rfl : m = ii := by omega
      rw [← hx]
      refine fam_exit (F := egF) (s0 := egU m f q h) (X := Nat × ET) (T := fun z => egT m f z.1 z.2) (x := (m, x)) x.n false (ege_1 ..) (by simp) (ob_cons rfl (ob_cons rfl (ob_cons rfl (ob_cons rfl (ob_cons rfl (ob_cons rfl (ob_cons rfl (ob_cons rfl (ob_cons rfl (ob_cons rfl (ob_cons (Nat.le_refl _) (ob_cons (.inl ⟨rfl, rfl⟩) (ob_cons rfl (ob_cons rfl (ob_cons rfl (ob_cons rfl (ob_cons rfl (ob_cons rfl (ob_cons rfl (ob_cons rfl (ob_cons (fun _ => rfl) (ob_cons rfl (ob_cons rfl (ob_cons rfl (ob_cons rfl (ob_cons rfl (ob_cons rfl (ob_cons rfl (ob_cons rfl (ob_cons rfl (ob_cons rfl (ob_cons rfl (ob_cons rfl (ob_cons (Nat.le_refl _) (ob_cons (.inl ⟨rfl, rfl⟩) (ob_cons ?_ ob_nil)))))))))))))))))))))))))))))))))))) (fun h => by cases h) rfl
      · (simp; done)
end Go.Proofs.Ytephpkfajobhmaa
