/-
  FreesPlay: its loop.
-/
import Derived.Test.YtlpcdjhojfopjaaDoorKFqDef
set_option linter.unusedSimpArgs false
set_option linter.unusedVariables false
namespace Go.Proofs.YtlpcdjhojfopjaaDoor
open Go.Ev
theorem fa0_1 (m : Nat) (f : Nat → Nat → AV) (q : Nat) (h : Nat → Nat → AV) (ii : Nat) (x : GX FO) : roundB Efp 3000 fpL (h0F fpF (fpU m f q h)) [(8, Src.nm 1004), (9, Src.nm 9), (900, Src.nm 1001), (901, Src.nm 1002)] (locSt fpF (fpT m f ii x) false (fpMb (x.O x.n)) x.n []) [Hint.b true, Hint.l 0] (locSt fpF (fpT m f (ii + 1) (gAdd x (FO.mk 1 0 0 0 0))) true (fpMb (FO.mk 1 0 0 0 0)) x.n []) =
 some (Ex.norm, [(0 : Nat) = 0,
 m = m,
 (none : Option Nat) = none,
 (0 : Nat) = 0,
 (0 : Nat) = 0,
 (0 : Nat) = 0,
 x.n + 1 = (gAdd x (FO.mk 1 0 0 0 0)).n,
 (none : Option Nat) = none,
 IntKind.i64.wrap (Int.ofNat ii + 1) = Int.ofNat (ii + 1),
 (0 : Int) = 0,
 (0 : Int) = 0,
 (0 : Int) = 0,
 (0 : Int) = 0,
 false = false,
 (fpT m f (ii + 1) (gAdd x (FO.mk 1 0 0 0 0))).n ≤ x.n + 1,
 ∀ (i : Nat), i < (fpT m f (ii + 1) (gAdd x (FO.mk 1 0 0 0 0))).n → rowV (CM.mk 8 fam0 [(8, Src.nm 1004), (9, Src.nm 9), (900, Src.nm 1001), (901, Src.nm 1002)]) fpF.sh 0 (fun j => if i < x.n then lrow fam0 2 (fpT m f ii x).M x.n (0 + i) j else rowsOf 3 [oneOrAll [AV.ptr 1001 0 0], cellOf (Value.pointer none), oneOrAll [AV.ptr 1002 0 0]] (i - x.n) j) (lrow fam0 2 (fpT m f (ii + 1) (gAdd x (FO.mk 1 0 0 0 0))).M x.n i),
 (0 : Nat) = 0,
 (0 : Nat) = 0,
 (0 : Nat) = 0,
 (0 : Nat) = 0,
 true = true,
 (1 : Nat) ≤ (1 : Nat),
 tabF tab = tabF tab ∧ plainSh (List.map kindOfV tab) = true ∨ ∀ (i : Nat), i < 1 → rowOb (List.map kindOfV tab) 0 (tabF tab i) (tabF tab i),
 true = true,
 m ≤ m,
 f = f ∧ plainSh asSh = true ∨ ∀ (i : Nat), i < m → rowOb asSh 0 (f i) (f i),
 x.S.st = (gAdd x (FO.mk 1 0 0 0 0)).S.st,
 x.S.L.c = (gAdd x (FO.mk 1 0 0 0 0)).S.L.c,
 x.S.L.k = (gAdd x (FO.mk 1 0 0 0 0)).S.L.k,
 x.S.L.a = (gAdd x (FO.mk 1 0 0 0 0)).S.L.a,
 x.S.L.f = (gAdd x (FO.mk 1 0 0 0 0)).S.L.f,
 x.S.L.w = (gAdd x (FO.mk 1 0 0 0 0)).S.L.w,
 x.S.L.i = (gAdd x (FO.mk 1 0 0 0 0)).S.L.i,
 x.S.L.d = (gAdd x (FO.mk 1 0 0 0 0)).S.L.d,
 ∀ (k : List Int), x.S.M k = (gAdd x (FO.mk 1 0 0 0 0)).S.M k,
 (0 : Nat) = 0,
 x.R.D.n = (gAdd x (FO.mk 1 0 0 0 0)).R.D.n,
 (none : Option Nat) = none,
 x.R.st = (gAdd x (FO.mk 1 0 0 0 0)).R.st,
 x.R.L.c = (gAdd x (FO.mk 1 0 0 0 0)).R.L.c,
 x.R.L.k = (gAdd x (FO.mk 1 0 0 0 0)).R.L.k,
 x.R.L.a = (gAdd x (FO.mk 1 0 0 0 0)).R.L.a,
 x.R.L.f = (gAdd x (FO.mk 1 0 0 0 0)).R.L.f,
 x.R.L.w = (gAdd x (FO.mk 1 0 0 0 0)).R.L.w,
 x.R.L.i = (gAdd x (FO.mk 1 0 0 0 0)).R.L.i,
 x.R.L.d = (gAdd x (FO.mk 1 0 0 0 0)).R.L.d,
 false = false,
 (gAdd x (FO.mk 1 0 0 0 0)).R.D.n ≤ x.R.D.n,
 wdF (gAdd x (FO.mk 1 0 0 0 0)).R.D.W = wdF x.R.D.W ∧ plainSh wSh = true ∨ ∀ (i : Nat), i < (gAdd x (FO.mk 1 0 0 0 0)).R.D.n → rowOb wSh 0 (wdF x.R.D.W i) (wdF (gAdd x (FO.mk 1 0 0 0 0)).R.D.W i),
 Both x.S x.R,
 ((x.n + 1) * 24).ble 70368744177664 = true,
 (0 + x.n).ble (fpT m f ii x).n = true,
 (avInt (f (0 + ii) 0)).tmod 6 = 0,
 (0 + ii).blt m = true,
 (ii.blt m && decide (0 ≤ Int.ofNat ii)) = true,
 decide (Int.ofNat ii < Int.ofNat m) = true]) := by kernel_rfl
theorem fa1_1 (m : Nat) (f : Nat → Nat → AV) (q : Nat) (h : Nat → Nat → AV) (ii : Nat) (x : GX FO) : roundB Efp 3000 fpL (h0F fpF (fpU m f q h)) [(8, Src.nm 920641108470789900941209602232762261560930575449611972042175697277037630238814718560919713466660544198686879910876269971342353403530266796248648385504), (9, Src.nm 9), (900, Src.nm 306880369490263300313736534077587420520310191816537324014058565759012543412938239520306571155553514732895626636958756657114117801176755598749549462502), (901, Src.nm 613760738980526600627473068155174841040620383633074648028117131518025086825876479040613142311107029465791253273917513314228235602353511197499098924003)] (locSt fpF (fpT m f ii x) false (fpMb (x.O x.n)) x.n []) [Hint.b true, Hint.l 1, Hint.node [(3, [Hint.b true]), (6, [Hint.b true])]] (locSt fpF (fpT m f (ii + 1) (gAdd x (FO.mk 5 0 0 0 0))) true (fpMb (FO.mk 5 0 0 0 0)) x.n []) =
 some (Ex.norm, [(0 : Nat) = 0,
 m = m,
 (none : Option Nat) = none,
 (0 : Nat) = 0,
 (0 : Nat) = 0,
 (0 : Nat) = 0,
 x.n + 1 = (gAdd x (FO.mk 5 0 0 0 0)).n,
 (none : Option Nat) = none,
 IntKind.i64.wrap (Int.ofNat ii + 1) = Int.ofNat (ii + 1),
 (0 : Int) = 0,
 (0 : Int) = 0,
 (0 : Int) = 0,
 (0 : Int) = 0,
 (0 : Int) = 0,
 false = false,
 (fpT m f (ii + 1) (gAdd x (FO.mk 5 0 0 0 0))).n ≤ x.n + 1,
 ∀ (i : Nat), i < (fpT m f (ii + 1) (gAdd x (FO.mk 5 0 0 0 0))).n → rowV (CM.mk 8 fam0 [(8, Src.nm 920641108470789900941209602232762261560930575449611972042175697277037630238814718560919713466660544198686879910876269971342353403530266796248648385504), (9, Src.nm 9), (900, Src.nm 306880369490263300313736534077587420520310191816537324014058565759012543412938239520306571155553514732895626636958756657114117801176755598749549462502), (901, Src.nm 613760738980526600627473068155174841040620383633074648028117131518025086825876479040613142311107029465791253273917513314228235602353511197499098924003)]) fpF.sh 0 (fun j => if i < x.n then lrow fam0 2 (fpT m f ii x).M x.n (0 + i) j else rowsOf 3 [cellOf (Value.pointer none), oneOrAll [AV.ptr 306880369490263300313736534077587420520310191816537324014058565759012543412938239520306571155553514732895626636958756657114117801176755598749549462502 0 0], oneOrAll [AV.ptr 613760738980526600627473068155174841040620383633074648028117131518025086825876479040613142311107029465791253273917513314228235602353511197499098924003 0 0]] (i - x.n) j) (lrow fam0 2 (fpT m f (ii + 1) (gAdd x (FO.mk 5 0 0 0 0))).M x.n i),
 (0 : Nat) = 0,
 (0 : Nat) = 0,
 (0 : Nat) = 0,
 (0 : Nat) = 0,
 true = true,
 (1 : Nat) ≤ (1 : Nat),
 tabF tab = tabF tab ∧ plainSh (List.map kindOfV tab) = true ∨ ∀ (i : Nat), i < 1 → rowOb (List.map kindOfV tab) 0 (tabF tab i) (tabF tab i),
 true = true,
 m ≤ m,
 f = f ∧ plainSh asSh = true ∨ ∀ (i : Nat), i < m → rowOb asSh 0 (f i) (f i),
 x.S.st = (gAdd x (FO.mk 5 0 0 0 0)).S.st,
 x.S.L.c = (gAdd x (FO.mk 5 0 0 0 0)).S.L.c,
 x.S.L.k = (gAdd x (FO.mk 5 0 0 0 0)).S.L.k,
 x.S.L.a = (gAdd x (FO.mk 5 0 0 0 0)).S.L.a,
 x.S.L.f = (gAdd x (FO.mk 5 0 0 0 0)).S.L.f,
 x.S.L.w = (gAdd x (FO.mk 5 0 0 0 0)).S.L.w,
 x.S.L.i = (gAdd x (FO.mk 5 0 0 0 0)).S.L.i,
 x.S.L.d = (gAdd x (FO.mk 5 0 0 0 0)).S.L.d,
 ∀ (k : List Int), x.S.M k = (gAdd x (FO.mk 5 0 0 0 0)).S.M k,
 (0 : Nat) = 0,
 x.R.D.n = (gAdd x (FO.mk 5 0 0 0 0)).R.D.n,
 (none : Option Nat) = none,
 x.R.st = (gAdd x (FO.mk 5 0 0 0 0)).R.st,
 x.R.L.c = (gAdd x (FO.mk 5 0 0 0 0)).R.L.c,
 x.R.L.k = (gAdd x (FO.mk 5 0 0 0 0)).R.L.k,
 x.R.L.a = (gAdd x (FO.mk 5 0 0 0 0)).R.L.a,
 x.R.L.f = (gAdd x (FO.mk 5 0 0 0 0)).R.L.f,
 x.R.L.w = (gAdd x (FO.mk 5 0 0 0 0)).R.L.w,
 x.R.L.i = (gAdd x (FO.mk 5 0 0 0 0)).R.L.i,
 x.R.L.d = (gAdd x (FO.mk 5 0 0 0 0)).R.L.d,
 false = false,
 (gAdd x (FO.mk 5 0 0 0 0)).R.D.n ≤ x.R.D.n,
 wdF (gAdd x (FO.mk 5 0 0 0 0)).R.D.W = wdF x.R.D.W ∧ plainSh wSh = true ∨ ∀ (i : Nat), i < (gAdd x (FO.mk 5 0 0 0 0)).R.D.n → rowOb wSh 0 (wdF x.R.D.W i) (wdF (gAdd x (FO.mk 5 0 0 0 0)).R.D.W i),
 Both x.S x.R,
 ((x.n + 1) * 24).ble 70368744177664 = true,
 (0 + x.n).ble (fpT m f ii x).n = true,
 decide (avInt (f (0 + ii) 1) < 0) = true,
 decide (avInt (f (0 + ii) 1) < 0) = true,
 (avInt (f (0 + ii) 0)).tmod 6 = 1,
 (0 + ii).blt m = true,
 (ii.blt m && decide (0 ≤ Int.ofNat ii)) = true,
 decide (Int.ofNat ii < Int.ofNat m) = true]) := by kernel_rfl
theorem fa2_1 (m : Nat) (f : Nat → Nat → AV) (q : Nat) (h : Nat → Nat → AV) (ii : Nat) (x : GX FO) : roundB Efp 3000 fpL (h0F fpF (fpU m f q h)) [(8, Src.nm 920641108470789900941209602232762261560930575449611972042175697277037630238814718560919713466660544198686879910876269971342353403530266796248648385504), (9, Src.nm 9), (900, Src.nm 306880369490263300313736534077587420520310191816537324014058565759012543412938239520306571155553514732895626636958756657114117801176755598749549462502), (901, Src.nm 613760738980526600627473068155174841040620383633074648028117131518025086825876479040613142311107029465791253273917513314228235602353511197499098924003)] (locSt fpF (fpT m f ii x) false (fpMb (x.O x.n)) x.n []) [Hint.b true, Hint.l 1, Hint.node [(3, [Hint.b false, Hint.b true]), (6, [Hint.b false, Hint.b true])]] (locSt fpF (fpT m f (ii + 1) (gAdd x (FO.mk 5 0 0 0 0))) true (fpMb (FO.mk 5 0 0 0 0)) x.n []) =
 some (Ex.norm, [(0 : Nat) = 0,
 m = m,
 (none : Option Nat) = none,
 (0 : Nat) = 0,
 (0 : Nat) = 0,
 (0 : Nat) = 0,
 x.n + 1 = (gAdd x (FO.mk 5 0 0 0 0)).n,
 (none : Option Nat) = none,
 IntKind.i64.wrap (Int.ofNat ii + 1) = Int.ofNat (ii + 1),
 (0 : Int) = 0,
 (0 : Int) = 0,
 (0 : Int) = 0,
 (0 : Int) = 0,
 (0 : Int) = 0,
 false = false,
 (fpT m f (ii + 1) (gAdd x (FO.mk 5 0 0 0 0))).n ≤ x.n + 1,
 ∀ (i : Nat), i < (fpT m f (ii + 1) (gAdd x (FO.mk 5 0 0 0 0))).n → rowV (CM.mk 8 fam0 [(8, Src.nm 920641108470789900941209602232762261560930575449611972042175697277037630238814718560919713466660544198686879910876269971342353403530266796248648385504), (9, Src.nm 9), (900, Src.nm 306880369490263300313736534077587420520310191816537324014058565759012543412938239520306571155553514732895626636958756657114117801176755598749549462502), (901, Src.nm 613760738980526600627473068155174841040620383633074648028117131518025086825876479040613142311107029465791253273917513314228235602353511197499098924003)]) fpF.sh 0 (fun j => if i < x.n then lrow fam0 2 (fpT m f ii x).M x.n (0 + i) j else rowsOf 3 [cellOf (Value.pointer none), oneOrAll [AV.ptr 306880369490263300313736534077587420520310191816537324014058565759012543412938239520306571155553514732895626636958756657114117801176755598749549462502 0 0], oneOrAll [AV.ptr 613760738980526600627473068155174841040620383633074648028117131518025086825876479040613142311107029465791253273917513314228235602353511197499098924003 0 0]] (i - x.n) j) (lrow fam0 2 (fpT m f (ii + 1) (gAdd x (FO.mk 5 0 0 0 0))).M x.n i),
 (0 : Nat) = 0,
 (0 : Nat) = 0,
 (0 : Nat) = 0,
 (0 : Nat) = 0,
 true = true,
 (1 : Nat) ≤ (1 : Nat),
 tabF tab = tabF tab ∧ plainSh (List.map kindOfV tab) = true ∨ ∀ (i : Nat), i < 1 → rowOb (List.map kindOfV tab) 0 (tabF tab i) (tabF tab i),
 true = true,
 m ≤ m,
 f = f ∧ plainSh asSh = true ∨ ∀ (i : Nat), i < m → rowOb asSh 0 (f i) (f i),
 x.S.st = (gAdd x (FO.mk 5 0 0 0 0)).S.st,
 x.S.L.c = (gAdd x (FO.mk 5 0 0 0 0)).S.L.c,
 x.S.L.k = (gAdd x (FO.mk 5 0 0 0 0)).S.L.k,
 x.S.L.a = (gAdd x (FO.mk 5 0 0 0 0)).S.L.a,
 x.S.L.f = (gAdd x (FO.mk 5 0 0 0 0)).S.L.f,
 x.S.L.w = (gAdd x (FO.mk 5 0 0 0 0)).S.L.w,
 x.S.L.i = (gAdd x (FO.mk 5 0 0 0 0)).S.L.i,
 x.S.L.d = (gAdd x (FO.mk 5 0 0 0 0)).S.L.d,
 ∀ (k : List Int), x.S.M k = (gAdd x (FO.mk 5 0 0 0 0)).S.M k,
 (0 : Nat) = 0,
 x.R.D.n = (gAdd x (FO.mk 5 0 0 0 0)).R.D.n,
 (none : Option Nat) = none,
 x.R.st = (gAdd x (FO.mk 5 0 0 0 0)).R.st,
 x.R.L.c = (gAdd x (FO.mk 5 0 0 0 0)).R.L.c,
 x.R.L.k = (gAdd x (FO.mk 5 0 0 0 0)).R.L.k,
 x.R.L.a = (gAdd x (FO.mk 5 0 0 0 0)).R.L.a,
 x.R.L.f = (gAdd x (FO.mk 5 0 0 0 0)).R.L.f,
 x.R.L.w = (gAdd x (FO.mk 5 0 0 0 0)).R.L.w,
 x.R.L.i = (gAdd x (FO.mk 5 0 0 0 0)).R.L.i,
 x.R.L.d = (gAdd x (FO.mk 5 0 0 0 0)).R.L.d,
 false = false,
 (gAdd x (FO.mk 5 0 0 0 0)).R.D.n ≤ x.R.D.n,
 wdF (gAdd x (FO.mk 5 0 0 0 0)).R.D.W = wdF x.R.D.W ∧ plainSh wSh = true ∨ ∀ (i : Nat), i < (gAdd x (FO.mk 5 0 0 0 0)).R.D.n → rowOb wSh 0 (wdF x.R.D.W i) (wdF (gAdd x (FO.mk 5 0 0 0 0)).R.D.W i),
 Both x.S x.R,
 ((x.n + 1) * 24).ble 70368744177664 = true,
 (0 + x.n).ble (fpT m f ii x).n = true,
 decide (avInt (f (0 + ii) 1) > 255) = true,
 decide (avInt (f (0 + ii) 1) < 0) = false,
 decide (avInt (f (0 + ii) 1) ≥ 256) = true,
 decide (avInt (f (0 + ii) 1) < 0) = false,
 (avInt (f (0 + ii) 0)).tmod 6 = 1,
 (0 + ii).blt m = true,
 (ii.blt m && decide (0 ≤ Int.ofNat ii)) = true,
 decide (Int.ofNat ii < Int.ofNat m) = true]) := by kernel_rfl
theorem fa3_1 (m : Nat) (f : Nat → Nat → AV) (q : Nat) (h : Nat → Nat → AV) (ii : Nat) (x : GX FO) : roundB Efp 3000 fpL (h0F fpF (fpU m f q h)) [(8, Src.nm 920641108470789900941209602232762261560930575449611972042175697277037630238814718560919713466660544198686879910876269971342353403530266796248648385504), (9, Src.nm 9), (900, Src.nm 306880369490263300313736534077587420520310191816537324014058565759012543412938239520306571155553514732895626636958756657114117801176755598749549462502), (901, Src.nm 613760738980526600627473068155174841040620383633074648028117131518025086825876479040613142311107029465791253273917513314228235602353511197499098924003)] (locSt fpF (fpT m f ii x) false (fpMb (x.O x.n)) x.n []) [Hint.b true, Hint.l 1, Hint.node [(3, [Hint.b false, Hint.b false]), (6, [Hint.b false, Hint.b false])]] (locSt fpF (fpT m f (ii + 1) (gAdd x (FO.mk 6 0 0 0 (avInt (f (0 + ii) 1))))) true (fpMb (FO.mk 6 0 0 0 (avInt (f (0 + ii) 1)))) x.n []) =
 some (Ex.norm, [(0 : Nat) = 0,
 m = m,
 (none : Option Nat) = none,
 (0 : Nat) = 0,
 (0 : Nat) = 0,
 (0 : Nat) = 0,
 x.n + 1 = (gAdd x (FO.mk 6 0 0 0 (avInt (f (0 + ii) 1)))).n,
 (none : Option Nat) = none,
 IntKind.i64.wrap (Int.ofNat ii + 1) = Int.ofNat (ii + 1),
 (0 : Int) = 0,
 avInt (f (0 + ii) 1) = (FO.mk 6 0 0 0 (avInt (f (0 + ii) 1))).sl,
 avInt (f (0 + ii) 1) = (FO.mk 6 0 0 0 (avInt (f (0 + ii) 1))).sl,
 (0 : Int) = 0,
 (0 : Int) = 0,
 false = false,
 (fpT m f (ii + 1) (gAdd x (FO.mk 6 0 0 0 (avInt (f (0 + ii) 1))))).n ≤ x.n + 1,
 ∀ (i : Nat), i < (fpT m f (ii + 1) (gAdd x (FO.mk 6 0 0 0 (avInt (f (0 + ii) 1))))).n → rowV (CM.mk 8 fam0 [(8, Src.nm 920641108470789900941209602232762261560930575449611972042175697277037630238814718560919713466660544198686879910876269971342353403530266796248648385504), (9, Src.nm 9), (900, Src.nm 306880369490263300313736534077587420520310191816537324014058565759012543412938239520306571155553514732895626636958756657114117801176755598749549462502), (901, Src.nm 613760738980526600627473068155174841040620383633074648028117131518025086825876479040613142311107029465791253273917513314228235602353511197499098924003)]) fpF.sh 0 (fun j => if i < x.n then lrow fam0 2 (fpT m f ii x).M x.n (0 + i) j else rowsOf 3 [cellOf (Value.pointer none), oneOrAll [AV.ptr 306880369490263300313736534077587420520310191816537324014058565759012543412938239520306571155553514732895626636958756657114117801176755598749549462502 0 0], oneOrAll [AV.ptr 613760738980526600627473068155174841040620383633074648028117131518025086825876479040613142311107029465791253273917513314228235602353511197499098924003 0 0]] (i - x.n) j) (lrow fam0 2 (fpT m f (ii + 1) (gAdd x (FO.mk 6 0 0 0 (avInt (f (0 + ii) 1))))).M x.n i),
 (0 : Nat) = 0,
 (0 : Nat) = 0,
 (0 : Nat) = 0,
 (0 : Nat) = 0,
 true = true,
 (1 : Nat) ≤ (1 : Nat),
 tabF tab = tabF tab ∧ plainSh (List.map kindOfV tab) = true ∨ ∀ (i : Nat), i < 1 → rowOb (List.map kindOfV tab) 0 (tabF tab i) (tabF tab i),
 true = true,
 m ≤ m,
 f = f ∧ plainSh asSh = true ∨ ∀ (i : Nat), i < m → rowOb asSh 0 (f i) (f i),
 x.S.st = (gAdd x (FO.mk 6 0 0 0 (avInt (f (0 + ii) 1)))).S.st,
 x.S.L.c = (gAdd x (FO.mk 6 0 0 0 (avInt (f (0 + ii) 1)))).S.L.c,
 x.S.L.k = (gAdd x (FO.mk 6 0 0 0 (avInt (f (0 + ii) 1)))).S.L.k,
 x.S.L.a = (gAdd x (FO.mk 6 0 0 0 (avInt (f (0 + ii) 1)))).S.L.a,
 x.S.L.f = (gAdd x (FO.mk 6 0 0 0 (avInt (f (0 + ii) 1)))).S.L.f,
 x.S.L.w = (gAdd x (FO.mk 6 0 0 0 (avInt (f (0 + ii) 1)))).S.L.w,
 x.S.L.i = (gAdd x (FO.mk 6 0 0 0 (avInt (f (0 + ii) 1)))).S.L.i,
 x.S.L.d = (gAdd x (FO.mk 6 0 0 0 (avInt (f (0 + ii) 1)))).S.L.d,
 ∀ (k : List Int), x.S.M k = (gAdd x (FO.mk 6 0 0 0 (avInt (f (0 + ii) 1)))).S.M k,
 (0 : Nat) = 0,
 x.R.D.n = (gAdd x (FO.mk 6 0 0 0 (avInt (f (0 + ii) 1)))).R.D.n,
 (none : Option Nat) = none,
 x.R.st = (gAdd x (FO.mk 6 0 0 0 (avInt (f (0 + ii) 1)))).R.st,
 x.R.L.c = (gAdd x (FO.mk 6 0 0 0 (avInt (f (0 + ii) 1)))).R.L.c,
 x.R.L.k = (gAdd x (FO.mk 6 0 0 0 (avInt (f (0 + ii) 1)))).R.L.k,
 x.R.L.a = (gAdd x (FO.mk 6 0 0 0 (avInt (f (0 + ii) 1)))).R.L.a,
 x.R.L.f = (gAdd x (FO.mk 6 0 0 0 (avInt (f (0 + ii) 1)))).R.L.f,
 x.R.L.w = (gAdd x (FO.mk 6 0 0 0 (avInt (f (0 + ii) 1)))).R.L.w,
 x.R.L.i = (gAdd x (FO.mk 6 0 0 0 (avInt (f (0 + ii) 1)))).R.L.i,
 x.R.L.d = (gAdd x (FO.mk 6 0 0 0 (avInt (f (0 + ii) 1)))).R.L.d,
 false = false,
 (gAdd x (FO.mk 6 0 0 0 (avInt (f (0 + ii) 1)))).R.D.n ≤ x.R.D.n,
 wdF (gAdd x (FO.mk 6 0 0 0 (avInt (f (0 + ii) 1)))).R.D.W = wdF x.R.D.W ∧ plainSh wSh = true ∨ ∀ (i : Nat), i < (gAdd x (FO.mk 6 0 0 0 (avInt (f (0 + ii) 1)))).R.D.n → rowOb wSh 0 (wdF x.R.D.W i) (wdF (gAdd x (FO.mk 6 0 0 0 (avInt (f (0 + ii) 1)))).R.D.W i),
 Both x.S x.R,
 ((x.n + 1) * 24).ble 70368744177664 = true,
 (0 + x.n).ble (fpT m f ii x).n = true,
 decide (avInt (f (0 + ii) 1) > 255) = false,
 decide (avInt (f (0 + ii) 1) < 0) = false,
 decide (avInt (f (0 + ii) 1) ≥ 256) = false,
 decide (avInt (f (0 + ii) 1) < 0) = false,
 (avInt (f (0 + ii) 0)).tmod 6 = 1,
 (0 + ii).blt m = true,
 (ii.blt m && decide (0 ≤ Int.ofNat ii)) = true,
 decide (Int.ofNat ii < Int.ofNat m) = true]) := by kernel_rfl
theorem fs0_1 (m : Nat) (f : Nat → Nat → AV) (q : Nat) (h : Nat → Nat → AV) (ii : Nat) (x : GX FO) : roundB Efp 3000 fpL (h0F fpF (fpU m f q h)) [(8, Src.nm 8), (9, Src.nm 1001)] (locSt fpF (fpT m f ii x) false (fpMb (x.O x.n)) x.n []) [Hint.b true, Hint.b false, Hint.b false, Hint.b true] (locSt fpF (fpT m f (ii + 1) (gSto x (avInt (f (0 + ii) 2)) (avInt (f (0 + ii) 3)) (avInt (f (0 + ii) 4)) (avInt (f (0 + ii) 5)))) false (fpMb (x.O x.n)) x.n []) =
 some (Ex.norm, [(0 : Nat) = 0,
 m = m,
 (none : Option Nat) = none,
 (0 : Nat) = 0,
 (0 : Nat) = 0,
 (0 : Nat) = 0,
 x.n = (gSto x (avInt (f (0 + ii) 2)) (avInt (f (0 + ii) 3)) (avInt (f (0 + ii) 4)) (avInt (f (0 + ii) 5))).n,
 (none : Option Nat) = none,
 IntKind.i64.wrap (Int.ofNat ii + 1) = Int.ofNat (ii + 1),
 false = false,
 (fpT m f (ii + 1) (gSto x (avInt (f (0 + ii) 2)) (avInt (f (0 + ii) 3)) (avInt (f (0 + ii) 4)) (avInt (f (0 + ii) 5)))).n ≤ (fpT m f ii x).n,
 ∀ (i : Nat), i < (fpT m f (ii + 1) (gSto x (avInt (f (0 + ii) 2)) (avInt (f (0 + ii) 3)) (avInt (f (0 + ii) 4)) (avInt (f (0 + ii) 5)))).n → rowV (CM.mk 8 fam0 [(8, Src.nm 8), (9, Src.nm 1001)]) fpF.sh 0 (lrow fam0 2 (fpT m f ii x).M x.n i) (lrow fam0 2 (fpT m f (ii + 1) (gSto x (avInt (f (0 + ii) 2)) (avInt (f (0 + ii) 3)) (avInt (f (0 + ii) 4)) (avInt (f (0 + ii) 5)))).M x.n i),
 (0 : Nat) = 0,
 (0 : Nat) = 0,
 (0 : Nat) = 0,
 (0 : Nat) = 0,
 true = true,
 (1 : Nat) ≤ (1 : Nat),
 tabF tab = tabF tab ∧ plainSh (List.map kindOfV tab) = true ∨ ∀ (i : Nat), i < 1 → rowOb (List.map kindOfV tab) 0 (tabF tab i) (tabF tab i),
 true = true,
 m ≤ m,
 f = f ∧ plainSh asSh = true ∨ ∀ (i : Nat), i < m → rowOb asSh 0 (f i) (f i),
 (MS.mk (memPut x.S.M (avInt (f (0 + ii) 2)) (avInt (f (0 + ii) 3)) (avInt (f (0 + ii) 4)) (avInt (f (0 + ii) 5))) (IntKind.i64.wrap (x.S.st + 1)) (LS.mk 2 (avInt (f (0 + ii) 2)) (avInt (f (0 + ii) 3)) (avInt (f (0 + ii) 4)) (mget x.S.M (key (avInt (f (0 + ii) 2)) (avInt (f (0 + ii) 3)) (avInt (f (0 + ii) 4)))) (memIs x.S.M (avInt (f (0 + ii) 2)) (avInt (f (0 + ii) 3)) (avInt (f (0 + ii) 4)) (avInt (f (0 + ii) 5))) false)).st = (gSto x (avInt (f (0 + ii) 2)) (avInt (f (0 + ii) 3)) (avInt (f (0 + ii) 4)) (avInt (f (0 + ii) 5))).S.st,
 (2 : Int) = 2,
 (MS.mk (memPut x.S.M (avInt (f (0 + ii) 2)) (avInt (f (0 + ii) 3)) (avInt (f (0 + ii) 4)) (avInt (f (0 + ii) 5))) (IntKind.i64.wrap (x.S.st + 1)) (LS.mk 2 (avInt (f (0 + ii) 2)) (avInt (f (0 + ii) 3)) (avInt (f (0 + ii) 4)) (mget x.S.M (key (avInt (f (0 + ii) 2)) (avInt (f (0 + ii) 3)) (avInt (f (0 + ii) 4)))) (memIs x.S.M (avInt (f (0 + ii) 2)) (avInt (f (0 + ii) 3)) (avInt (f (0 + ii) 4)) (avInt (f (0 + ii) 5))) false)).L.k = (gSto x (avInt (f (0 + ii) 2)) (avInt (f (0 + ii) 3)) (avInt (f (0 + ii) 4)) (avInt (f (0 + ii) 5))).S.L.k,
 (MS.mk (memPut x.S.M (avInt (f (0 + ii) 2)) (avInt (f (0 + ii) 3)) (avInt (f (0 + ii) 4)) (avInt (f (0 + ii) 5))) (IntKind.i64.wrap (x.S.st + 1)) (LS.mk 2 (avInt (f (0 + ii) 2)) (avInt (f (0 + ii) 3)) (avInt (f (0 + ii) 4)) (mget x.S.M (key (avInt (f (0 + ii) 2)) (avInt (f (0 + ii) 3)) (avInt (f (0 + ii) 4)))) (memIs x.S.M (avInt (f (0 + ii) 2)) (avInt (f (0 + ii) 3)) (avInt (f (0 + ii) 4)) (avInt (f (0 + ii) 5))) false)).L.a = (gSto x (avInt (f (0 + ii) 2)) (avInt (f (0 + ii) 3)) (avInt (f (0 + ii) 4)) (avInt (f (0 + ii) 5))).S.L.a,
 (MS.mk (memPut x.S.M (avInt (f (0 + ii) 2)) (avInt (f (0 + ii) 3)) (avInt (f (0 + ii) 4)) (avInt (f (0 + ii) 5))) (IntKind.i64.wrap (x.S.st + 1)) (LS.mk 2 (avInt (f (0 + ii) 2)) (avInt (f (0 + ii) 3)) (avInt (f (0 + ii) 4)) (mget x.S.M (key (avInt (f (0 + ii) 2)) (avInt (f (0 + ii) 3)) (avInt (f (0 + ii) 4)))) (memIs x.S.M (avInt (f (0 + ii) 2)) (avInt (f (0 + ii) 3)) (avInt (f (0 + ii) 4)) (avInt (f (0 + ii) 5))) false)).L.f = (gSto x (avInt (f (0 + ii) 2)) (avInt (f (0 + ii) 3)) (avInt (f (0 + ii) 4)) (avInt (f (0 + ii) 5))).S.L.f,
 (MS.mk (memPut x.S.M (avInt (f (0 + ii) 2)) (avInt (f (0 + ii) 3)) (avInt (f (0 + ii) 4)) (avInt (f (0 + ii) 5))) (IntKind.i64.wrap (x.S.st + 1)) (LS.mk 2 (avInt (f (0 + ii) 2)) (avInt (f (0 + ii) 3)) (avInt (f (0 + ii) 4)) (mget x.S.M (key (avInt (f (0 + ii) 2)) (avInt (f (0 + ii) 3)) (avInt (f (0 + ii) 4)))) (memIs x.S.M (avInt (f (0 + ii) 2)) (avInt (f (0 + ii) 3)) (avInt (f (0 + ii) 4)) (avInt (f (0 + ii) 5))) false)).L.w = (gSto x (avInt (f (0 + ii) 2)) (avInt (f (0 + ii) 3)) (avInt (f (0 + ii) 4)) (avInt (f (0 + ii) 5))).S.L.w,
 (MS.mk (memPut x.S.M (avInt (f (0 + ii) 2)) (avInt (f (0 + ii) 3)) (avInt (f (0 + ii) 4)) (avInt (f (0 + ii) 5))) (IntKind.i64.wrap (x.S.st + 1)) (LS.mk 2 (avInt (f (0 + ii) 2)) (avInt (f (0 + ii) 3)) (avInt (f (0 + ii) 4)) (mget x.S.M (key (avInt (f (0 + ii) 2)) (avInt (f (0 + ii) 3)) (avInt (f (0 + ii) 4)))) (memIs x.S.M (avInt (f (0 + ii) 2)) (avInt (f (0 + ii) 3)) (avInt (f (0 + ii) 4)) (avInt (f (0 + ii) 5))) false)).L.i = (gSto x (avInt (f (0 + ii) 2)) (avInt (f (0 + ii) 3)) (avInt (f (0 + ii) 4)) (avInt (f (0 + ii) 5))).S.L.i,
 (MS.mk (memPut x.S.M (avInt (f (0 + ii) 2)) (avInt (f (0 + ii) 3)) (avInt (f (0 + ii) 4)) (avInt (f (0 + ii) 5))) (IntKind.i64.wrap (x.S.st + 1)) (LS.mk 2 (avInt (f (0 + ii) 2)) (avInt (f (0 + ii) 3)) (avInt (f (0 + ii) 4)) (mget x.S.M (key (avInt (f (0 + ii) 2)) (avInt (f (0 + ii) 3)) (avInt (f (0 + ii) 4)))) (memIs x.S.M (avInt (f (0 + ii) 2)) (avInt (f (0 + ii) 3)) (avInt (f (0 + ii) 4)) (avInt (f (0 + ii) 5))) false)).L.d = (gSto x (avInt (f (0 + ii) 2)) (avInt (f (0 + ii) 3)) (avInt (f (0 + ii) 4)) (avInt (f (0 + ii) 5))).S.L.d,
 ∀ (k : List Int), (MS.mk (memPut x.S.M (avInt (f (0 + ii) 2)) (avInt (f (0 + ii) 3)) (avInt (f (0 + ii) 4)) (avInt (f (0 + ii) 5))) (IntKind.i64.wrap (x.S.st + 1)) (LS.mk 2 (avInt (f (0 + ii) 2)) (avInt (f (0 + ii) 3)) (avInt (f (0 + ii) 4)) (mget x.S.M (key (avInt (f (0 + ii) 2)) (avInt (f (0 + ii) 3)) (avInt (f (0 + ii) 4)))) (memIs x.S.M (avInt (f (0 + ii) 2)) (avInt (f (0 + ii) 3)) (avInt (f (0 + ii) 4)) (avInt (f (0 + ii) 5))) false)).M k = (gSto x (avInt (f (0 + ii) 2)) (avInt (f (0 + ii) 3)) (avInt (f (0 + ii) 4)) (avInt (f (0 + ii) 5))).S.M k,
 (0 : Nat) = 0,
 (dPut (dOf x.R.D.n (wdF x.R.D.W)) (avInt (f (0 + ii) 2)) (avInt (f (0 + ii) 3)) (avInt (f (0 + ii) 4)) (avInt (f (0 + ii) 5))).n = (gSto x (avInt (f (0 + ii) 2)) (avInt (f (0 + ii) 3)) (avInt (f (0 + ii) 4)) (avInt (f (0 + ii) 5))).R.D.n,
 (none : Option Nat) = none,
 IntKind.i64.wrap (x.R.st + 1) = (gSto x (avInt (f (0 + ii) 2)) (avInt (f (0 + ii) 3)) (avInt (f (0 + ii) 4)) (avInt (f (0 + ii) 5))).R.st,
 (2 : Int) = 2,
 (LS.mk 2 (avInt (f (0 + ii) 2)) (avInt (f (0 + ii) 3)) (avInt (f (0 + ii) 4)) (dWord (dOf x.R.D.n (wdF x.R.D.W)) (avInt (f (0 + ii) 2)) (avInt (f (0 + ii) 3)) (avInt (f (0 + ii) 4))) (dWord (dPut (dOf x.R.D.n (wdF x.R.D.W)) (avInt (f (0 + ii) 2)) (avInt (f (0 + ii) 3)) (avInt (f (0 + ii) 4)) (avInt (f (0 + ii) 5))) (avInt (f (0 + ii) 2)) (avInt (f (0 + ii) 3)) (avInt (f (0 + ii) 4))) false).k = (gSto x (avInt (f (0 + ii) 2)) (avInt (f (0 + ii) 3)) (avInt (f (0 + ii) 4)) (avInt (f (0 + ii) 5))).R.L.k,
 (LS.mk 2 (avInt (f (0 + ii) 2)) (avInt (f (0 + ii) 3)) (avInt (f (0 + ii) 4)) (dWord (dOf x.R.D.n (wdF x.R.D.W)) (avInt (f (0 + ii) 2)) (avInt (f (0 + ii) 3)) (avInt (f (0 + ii) 4))) (dWord (dPut (dOf x.R.D.n (wdF x.R.D.W)) (avInt (f (0 + ii) 2)) (avInt (f (0 + ii) 3)) (avInt (f (0 + ii) 4)) (avInt (f (0 + ii) 5))) (avInt (f (0 + ii) 2)) (avInt (f (0 + ii) 3)) (avInt (f (0 + ii) 4))) false).a = (gSto x (avInt (f (0 + ii) 2)) (avInt (f (0 + ii) 3)) (avInt (f (0 + ii) 4)) (avInt (f (0 + ii) 5))).R.L.a,
 (LS.mk 2 (avInt (f (0 + ii) 2)) (avInt (f (0 + ii) 3)) (avInt (f (0 + ii) 4)) (dWord (dOf x.R.D.n (wdF x.R.D.W)) (avInt (f (0 + ii) 2)) (avInt (f (0 + ii) 3)) (avInt (f (0 + ii) 4))) (dWord (dPut (dOf x.R.D.n (wdF x.R.D.W)) (avInt (f (0 + ii) 2)) (avInt (f (0 + ii) 3)) (avInt (f (0 + ii) 4)) (avInt (f (0 + ii) 5))) (avInt (f (0 + ii) 2)) (avInt (f (0 + ii) 3)) (avInt (f (0 + ii) 4))) false).f = (gSto x (avInt (f (0 + ii) 2)) (avInt (f (0 + ii) 3)) (avInt (f (0 + ii) 4)) (avInt (f (0 + ii) 5))).R.L.f,
 (LS.mk 2 (avInt (f (0 + ii) 2)) (avInt (f (0 + ii) 3)) (avInt (f (0 + ii) 4)) (dWord (dOf x.R.D.n (wdF x.R.D.W)) (avInt (f (0 + ii) 2)) (avInt (f (0 + ii) 3)) (avInt (f (0 + ii) 4))) (dWord (dPut (dOf x.R.D.n (wdF x.R.D.W)) (avInt (f (0 + ii) 2)) (avInt (f (0 + ii) 3)) (avInt (f (0 + ii) 4)) (avInt (f (0 + ii) 5))) (avInt (f (0 + ii) 2)) (avInt (f (0 + ii) 3)) (avInt (f (0 + ii) 4))) false).w = (gSto x (avInt (f (0 + ii) 2)) (avInt (f (0 + ii) 3)) (avInt (f (0 + ii) 4)) (avInt (f (0 + ii) 5))).R.L.w,
 (LS.mk 2 (avInt (f (0 + ii) 2)) (avInt (f (0 + ii) 3)) (avInt (f (0 + ii) 4)) (dWord (dOf x.R.D.n (wdF x.R.D.W)) (avInt (f (0 + ii) 2)) (avInt (f (0 + ii) 3)) (avInt (f (0 + ii) 4))) (dWord (dPut (dOf x.R.D.n (wdF x.R.D.W)) (avInt (f (0 + ii) 2)) (avInt (f (0 + ii) 3)) (avInt (f (0 + ii) 4)) (avInt (f (0 + ii) 5))) (avInt (f (0 + ii) 2)) (avInt (f (0 + ii) 3)) (avInt (f (0 + ii) 4))) false).i = (gSto x (avInt (f (0 + ii) 2)) (avInt (f (0 + ii) 3)) (avInt (f (0 + ii) 4)) (avInt (f (0 + ii) 5))).R.L.i,
 (LS.mk 2 (avInt (f (0 + ii) 2)) (avInt (f (0 + ii) 3)) (avInt (f (0 + ii) 4)) (dWord (dOf x.R.D.n (wdF x.R.D.W)) (avInt (f (0 + ii) 2)) (avInt (f (0 + ii) 3)) (avInt (f (0 + ii) 4))) (dWord (dPut (dOf x.R.D.n (wdF x.R.D.W)) (avInt (f (0 + ii) 2)) (avInt (f (0 + ii) 3)) (avInt (f (0 + ii) 4)) (avInt (f (0 + ii) 5))) (avInt (f (0 + ii) 2)) (avInt (f (0 + ii) 3)) (avInt (f (0 + ii) 4))) false).d = (gSto x (avInt (f (0 + ii) 2)) (avInt (f (0 + ii) 3)) (avInt (f (0 + ii) 4)) (avInt (f (0 + ii) 5))).R.L.d,
 false = false,
 (gSto x (avInt (f (0 + ii) 2)) (avInt (f (0 + ii) 3)) (avInt (f (0 + ii) 4)) (avInt (f (0 + ii) 5))).R.D.n ≤ (dPut (dOf x.R.D.n (wdF x.R.D.W)) (avInt (f (0 + ii) 2)) (avInt (f (0 + ii) 3)) (avInt (f (0 + ii) 4)) (avInt (f (0 + ii) 5))).n,
 wdF (gSto x (avInt (f (0 + ii) 2)) (avInt (f (0 + ii) 3)) (avInt (f (0 + ii) 4)) (avInt (f (0 + ii) 5))).R.D.W = wdF (dPut (dOf x.R.D.n (wdF x.R.D.W)) (avInt (f (0 + ii) 2)) (avInt (f (0 + ii) 3)) (avInt (f (0 + ii) 4)) (avInt (f (0 + ii) 5))).W ∧ plainSh wSh = true ∨ ∀ (i : Nat), i < (gSto x (avInt (f (0 + ii) 2)) (avInt (f (0 + ii) 3)) (avInt (f (0 + ii) 4)) (avInt (f (0 + ii) 5))).R.D.n → rowOb wSh 0 (wdF (dPut (dOf x.R.D.n (wdF x.R.D.W)) (avInt (f (0 + ii) 2)) (avInt (f (0 + ii) 3)) (avInt (f (0 + ii) 4)) (avInt (f (0 + ii) 5))).W i) (wdF (gSto x (avInt (f (0 + ii) 2)) (avInt (f (0 + ii) 3)) (avInt (f (0 + ii) 4)) (avInt (f (0 + ii) 5))).R.D.W i),
 Both (MS.mk (memPut x.S.M (avInt (f (0 + ii) 2)) (avInt (f (0 + ii) 3)) (avInt (f (0 + ii) 4)) (avInt (f (0 + ii) 5))) (IntKind.i64.wrap (x.S.st + 1)) (LS.mk 2 (avInt (f (0 + ii) 2)) (avInt (f (0 + ii) 3)) (avInt (f (0 + ii) 4)) (mget x.S.M (key (avInt (f (0 + ii) 2)) (avInt (f (0 + ii) 3)) (avInt (f (0 + ii) 4)))) (memIs x.S.M (avInt (f (0 + ii) 2)) (avInt (f (0 + ii) 3)) (avInt (f (0 + ii) 4)) (avInt (f (0 + ii) 5))) false)) (mkR (dPut (dOf x.R.D.n (wdF x.R.D.W)) (avInt (f (0 + ii) 2)) (avInt (f (0 + ii) 3)) (avInt (f (0 + ii) 4)) (avInt (f (0 + ii) 5))).n (wdF (dPut (dOf x.R.D.n (wdF x.R.D.W)) (avInt (f (0 + ii) 2)) (avInt (f (0 + ii) 3)) (avInt (f (0 + ii) 4)) (avInt (f (0 + ii) 5))).W) (IntKind.i64.wrap (x.R.st + 1)) (LS.mk 2 (avInt (f (0 + ii) 2)) (avInt (f (0 + ii) 3)) (avInt (f (0 + ii) 4)) (dWord (dOf x.R.D.n (wdF x.R.D.W)) (avInt (f (0 + ii) 2)) (avInt (f (0 + ii) 3)) (avInt (f (0 + ii) 4))) (dWord (dPut (dOf x.R.D.n (wdF x.R.D.W)) (avInt (f (0 + ii) 2)) (avInt (f (0 + ii) 3)) (avInt (f (0 + ii) 4)) (avInt (f (0 + ii) 5))) (avInt (f (0 + ii) 2)) (avInt (f (0 + ii) 3)) (avInt (f (0 + ii) 4))) false)),
 x.R.D.n ≤ x.R.D.n,
 x.R.D.n ≤ 100000,
 0 ≤ avInt (f (0 + ii) 2),
 ((avInt (f (0 + ii) 0)).tmod 6 == 2) = true,
 ((avInt (f (0 + ii) 0)).tmod 6 == 1) = false,
 ((avInt (f (0 + ii) 0)).tmod 6 == 0) = false,
 (0 + ii).blt m = true,
 (ii.blt m && decide (0 ≤ Int.ofNat ii)) = true,
 decide (Int.ofNat ii < Int.ofNat m) = true]) := by kernel_rfl
theorem fs1_1 (m : Nat) (f : Nat → Nat → AV) (q : Nat) (h : Nat → Nat → AV) (ii : Nat) (x : GX FO) : roundB Efp 3000 fpL (h0F fpF (fpU m f q h)) [(8, Src.nm 8), (9, Src.nm 9)] (locSt fpF (fpT m f ii x) false (fpMb (x.O x.n)) x.n []) [Hint.b true, Hint.b false, Hint.b false, Hint.b false, Hint.b true] (locSt fpF (fpT m f (ii + 1) x) false (fpMb (x.O x.n)) x.n []) =
 some (Ex.norm, [(0 : Nat) = 0,
 m = m,
 (none : Option Nat) = none,
 (0 : Nat) = 0,
 (0 : Nat) = 0,
 (0 : Nat) = 0,
 x.n = x.n,
 (none : Option Nat) = none,
 IntKind.i64.wrap (Int.ofNat ii + 1) = Int.ofNat (ii + 1),
 false = false,
 (fpT m f (ii + 1) x).n ≤ (fpT m f ii x).n,
 ∀ (i : Nat), i < (fpT m f (ii + 1) x).n → rowV (CM.mk 8 fam0 [(8, Src.nm 8), (9, Src.nm 9)]) fpF.sh 0 (lrow fam0 2 (fpT m f ii x).M x.n i) (lrow fam0 2 (fpT m f (ii + 1) x).M x.n i),
 (0 : Nat) = 0,
 (0 : Nat) = 0,
 (0 : Nat) = 0,
 (0 : Nat) = 0,
 true = true,
 (1 : Nat) ≤ (1 : Nat),
 tabF tab = tabF tab ∧ plainSh (List.map kindOfV tab) = true ∨ ∀ (i : Nat), i < 1 → rowOb (List.map kindOfV tab) 0 (tabF tab i) (tabF tab i),
 true = true,
 m ≤ m,
 f = f ∧ plainSh asSh = true ∨ ∀ (i : Nat), i < m → rowOb asSh 0 (f i) (f i),
 x.S.st = x.S.st,
 x.S.L.c = x.S.L.c,
 x.S.L.k = x.S.L.k,
 x.S.L.a = x.S.L.a,
 x.S.L.f = x.S.L.f,
 x.S.L.w = x.S.L.w,
 x.S.L.i = x.S.L.i,
 x.S.L.d = x.S.L.d,
 ∀ (k : List Int), x.S.M k = x.S.M k,
 (0 : Nat) = 0,
 x.R.D.n = x.R.D.n,
 (none : Option Nat) = none,
 x.R.st = x.R.st,
 x.R.L.c = x.R.L.c,
 x.R.L.k = x.R.L.k,
 x.R.L.a = x.R.L.a,
 x.R.L.f = x.R.L.f,
 x.R.L.w = x.R.L.w,
 x.R.L.i = x.R.L.i,
 x.R.L.d = x.R.L.d,
 false = false,
 x.R.D.n ≤ x.R.D.n,
 wdF x.R.D.W = wdF x.R.D.W ∧ plainSh wSh = true ∨ ∀ (i : Nat), i < x.R.D.n → rowOb wSh 0 (wdF x.R.D.W i) (wdF x.R.D.W i),
 (Int.ofNat x.n == 0) = true,
 ((avInt (f (0 + ii) 0)).tmod 6 == 2) = false,
 ((avInt (f (0 + ii) 0)).tmod 6 == 1) = false,
 ((avInt (f (0 + ii) 0)).tmod 6 == 0) = false,
 (0 + ii).blt m = true,
 (ii.blt m && decide (0 ≤ Int.ofNat ii)) = true,
 decide (Int.ofNat ii < Int.ofNat m) = true]) := by kernel_rfl
theorem f0_1 (m : Nat) (f : Nat → Nat → AV) (q : Nat) (h : Nat → Nat → AV) (ii : Nat) (x : GX FO) (j : Nat) (hh nx n sl : Int) : roundB Efp 3000 fpL (h0F fpF (fpU m f q h)) [(8, Src.nm 8), (9, Src.nm 9), (900, Src.nm 900), (901, Src.nm 901)] (locSt fpF (fpT m f ii x) true (fpMb (FO.mk 0 hh nx n sl)) j []) [Hint.b true, Hint.b false, Hint.b false, Hint.b false, Hint.b false, Hint.a (AV.ptr 900 0 0), Hint.a AV.nilp, Hint.a (AV.ptr 901 0 0)] (locSt fpF (fpT m f (ii + 1) (gPut x x.S x.R j (FO.mk 0 hh nx n sl))) true (fpMb (FO.mk 0 hh nx n sl)) j []) =
 some (Ex.norm, [(0 : Nat) = 0,
 m = m,
 (none : Option Nat) = none,
 (0 : Nat) = 0,
 (0 : Nat) = 0,
 (0 : Nat) = 0,
 x.n = (gPut x x.S x.R j (FO.mk 0 hh nx n sl)).n,
 (none : Option Nat) = none,
 IntKind.i64.wrap (Int.ofNat ii + 1) = Int.ofNat (ii + 1),
 (FO.mk 0 hh nx n sl).h = (FO.mk 0 hh nx n sl).h,
 (FO.mk 0 hh nx n sl).nx = (FO.mk 0 hh nx n sl).nx,
 (FO.mk 0 hh nx n sl).h = (FO.mk 0 hh nx n sl).h,
 (FO.mk 0 hh nx n sl).n = (FO.mk 0 hh nx n sl).n,
 false = false,
 (fpT m f (ii + 1) (gPut x x.S x.R j (FO.mk 0 hh nx n sl))).n ≤ (fpT m f ii x).n,
 ∀ (i : Nat), i < (fpT m f (ii + 1) (gPut x x.S x.R j (FO.mk 0 hh nx n sl))).n → rowV (CM.mk 8 fam0 [(8, Src.nm 8), (9, Src.nm 9), (900, Src.nm 900), (901, Src.nm 901)]) fpF.sh 0 (lrow fam0 2 (fpT m f ii x).M j i) (lrow fam0 2 (fpT m f (ii + 1) (gPut x x.S x.R j (FO.mk 0 hh nx n sl))).M j i),
 (0 : Nat) = 0,
 (0 : Nat) = 0,
 (0 : Nat) = 0,
 (0 : Nat) = 0,
 true = true,
 (1 : Nat) ≤ (1 : Nat),
 tabF tab = tabF tab ∧ plainSh (List.map kindOfV tab) = true ∨ ∀ (i : Nat), i < 1 → rowOb (List.map kindOfV tab) 0 (tabF tab i) (tabF tab i),
 true = true,
 m ≤ m,
 f = f ∧ plainSh asSh = true ∨ ∀ (i : Nat), i < m → rowOb asSh 0 (f i) (f i),
 x.S.st = (gPut x x.S x.R j (FO.mk 0 hh nx n sl)).S.st,
 x.S.L.c = (gPut x x.S x.R j (FO.mk 0 hh nx n sl)).S.L.c,
 x.S.L.k = (gPut x x.S x.R j (FO.mk 0 hh nx n sl)).S.L.k,
 x.S.L.a = (gPut x x.S x.R j (FO.mk 0 hh nx n sl)).S.L.a,
 x.S.L.f = (gPut x x.S x.R j (FO.mk 0 hh nx n sl)).S.L.f,
 x.S.L.w = (gPut x x.S x.R j (FO.mk 0 hh nx n sl)).S.L.w,
 x.S.L.i = (gPut x x.S x.R j (FO.mk 0 hh nx n sl)).S.L.i,
 x.S.L.d = (gPut x x.S x.R j (FO.mk 0 hh nx n sl)).S.L.d,
 ∀ (k : List Int), x.S.M k = (gPut x x.S x.R j (FO.mk 0 hh nx n sl)).S.M k,
 (0 : Nat) = 0,
 x.R.D.n = (gPut x x.S x.R j (FO.mk 0 hh nx n sl)).R.D.n,
 (none : Option Nat) = none,
 x.R.st = (gPut x x.S x.R j (FO.mk 0 hh nx n sl)).R.st,
 x.R.L.c = (gPut x x.S x.R j (FO.mk 0 hh nx n sl)).R.L.c,
 x.R.L.k = (gPut x x.S x.R j (FO.mk 0 hh nx n sl)).R.L.k,
 x.R.L.a = (gPut x x.S x.R j (FO.mk 0 hh nx n sl)).R.L.a,
 x.R.L.f = (gPut x x.S x.R j (FO.mk 0 hh nx n sl)).R.L.f,
 x.R.L.w = (gPut x x.S x.R j (FO.mk 0 hh nx n sl)).R.L.w,
 x.R.L.i = (gPut x x.S x.R j (FO.mk 0 hh nx n sl)).R.L.i,
 x.R.L.d = (gPut x x.S x.R j (FO.mk 0 hh nx n sl)).R.L.d,
 false = false,
 (gPut x x.S x.R j (FO.mk 0 hh nx n sl)).R.D.n ≤ x.R.D.n,
 wdF (gPut x x.S x.R j (FO.mk 0 hh nx n sl)).R.D.W = wdF x.R.D.W ∧ plainSh wSh = true ∨ ∀ (i : Nat), i < (gPut x x.S x.R j (FO.mk 0 hh nx n sl)).R.D.n → rowOb wSh 0 (wdF x.R.D.W i) (wdF (gPut x x.S x.R j (FO.mk 0 hh nx n sl)).R.D.W i),
 Both x.S x.R,
 0 ≤ (FO.mk 0 hh nx n sl).h,
 (FO.mk 0 hh nx n sl).h < 18446744073709551616,
 lrow fam0 2 (fpT m f ii x).M j (0 + ((IntKind.u64.wrap (avInt (f (0 + ii) 1))).tmod (IntKind.u64.wrap (Int.ofNat x.n))).toNat) 2 = AV.ptr 901 0 0,
 lrow fam0 2 (fpT m f ii x).M j (0 + ((IntKind.u64.wrap (avInt (f (0 + ii) 1))).tmod (IntKind.u64.wrap (Int.ofNat x.n))).toNat) 1 = AV.nilp,
 lrow fam0 2 (fpT m f ii x).M j (0 + ((IntKind.u64.wrap (avInt (f (0 + ii) 1))).tmod (IntKind.u64.wrap (Int.ofNat x.n))).toNat) 0 = AV.ptr 900 0 0,
 (0 + ((IntKind.u64.wrap (avInt (f (0 + ii) 1))).tmod (IntKind.u64.wrap (Int.ofNat x.n))).toNat).blt (fpT m f ii x).n = true,
 (((IntKind.u64.wrap (avInt (f (0 + ii) 1))).tmod (IntKind.u64.wrap (Int.ofNat x.n))).toNat.blt x.n && decide (0 ≤ (IntKind.u64.wrap (avInt (f (0 + ii) 1))).tmod (IntKind.u64.wrap (Int.ofNat x.n)))) = true,
 decide (IntKind.u64.wrap (Int.ofNat x.n) ≠ 0) = true,
 (Int.ofNat x.n == 0) = false,
 ((avInt (f (0 + ii) 0)).tmod 6 == 2) = false,
 ((avInt (f (0 + ii) 0)).tmod 6 == 1) = false,
 ((avInt (f (0 + ii) 0)).tmod 6 == 0) = false,
 (0 + ii).blt m = true,
 (ii.blt m && decide (0 ≤ Int.ofNat ii)) = true,
 decide (Int.ofNat ii < Int.ofNat m) = true]) := by kernel_rfl
theorem f1a_1 (m : Nat) (f : Nat → Nat → AV) (q : Nat) (h : Nat → Nat → AV) (ii : Nat) (x : GX FO) (j : Nat) (hh nx n sl : Int) : roundB Efp 3000 fpL (h0F fpF (fpU m f q h)) [(8, Src.nm 8), (9, Src.nm 9), (900, Src.nm 900), (901, Src.nm 901)] (locSt fpF (fpT m f ii x) true (fpMb (FO.mk 1 hh nx n sl)) j []) [Hint.b true, Hint.b false, Hint.b false, Hint.b false, Hint.b false, Hint.a (AV.ptr 900 0 0), Hint.a AV.nilp, Hint.a (AV.ptr 901 0 0), Hint.b true, Hint.b true] (locSt fpF (fpT m f (ii + 1) (gPut x (mLoad x.S 0 0 0) (rLoad x.R 0 0 0) j (FO.mk 0 (mget x.S.M (key 0 0 0)) nx n sl))) true (fpMb (FO.mk 0 (mget x.S.M (key 0 0 0)) nx n sl)) j []) =
 some (Ex.norm, [(0 : Nat) = 0,
 m = m,
 (none : Option Nat) = none,
 (0 : Nat) = 0,
 (0 : Nat) = 0,
 (0 : Nat) = 0,
 x.n = (gPut x (mLoad x.S 0 0 0) (rLoad x.R 0 0 0) j (FO.mk 0 (mget x.S.M (key 0 0 0)) nx n sl)).n,
 (none : Option Nat) = none,
 IntKind.i64.wrap (Int.ofNat ii + 1) = Int.ofNat (ii + 1),
 mget x.S.M (key 0 0 0) = (FO.mk 0 (mget x.S.M (key 0 0 0)) nx n sl).h,
 (FO.mk 1 hh nx n sl).nx = (FO.mk 0 (mget x.S.M (key 0 0 0)) nx n sl).nx,
 dWord (dOf x.R.D.n (wdF x.R.D.W)) 0 0 0 = (FO.mk 0 (mget x.S.M (key 0 0 0)) nx n sl).h,
 (FO.mk 1 hh nx n sl).n = (FO.mk 0 (mget x.S.M (key 0 0 0)) nx n sl).n,
 false = false,
 (fpT m f (ii + 1) (gPut x (mLoad x.S 0 0 0) (rLoad x.R 0 0 0) j (FO.mk 0 (mget x.S.M (key 0 0 0)) nx n sl))).n ≤ (fpT m f ii x).n,
 ∀ (i : Nat), i < (fpT m f (ii + 1) (gPut x (mLoad x.S 0 0 0) (rLoad x.R 0 0 0) j (FO.mk 0 (mget x.S.M (key 0 0 0)) nx n sl))).n → rowV (CM.mk 8 fam0 [(8, Src.nm 8), (9, Src.nm 9), (900, Src.nm 900), (901, Src.nm 901)]) fpF.sh 0 (lrow fam0 2 (fpT m f ii x).M j i) (lrow fam0 2 (fpT m f (ii + 1) (gPut x (mLoad x.S 0 0 0) (rLoad x.R 0 0 0) j (FO.mk 0 (mget x.S.M (key 0 0 0)) nx n sl))).M j i),
 (0 : Nat) = 0,
 (0 : Nat) = 0,
 (0 : Nat) = 0,
 (0 : Nat) = 0,
 true = true,
 (1 : Nat) ≤ (1 : Nat),
 tabF tab = tabF tab ∧ plainSh (List.map kindOfV tab) = true ∨ ∀ (i : Nat), i < 1 → rowOb (List.map kindOfV tab) 0 (tabF tab i) (tabF tab i),
 true = true,
 m ≤ m,
 f = f ∧ plainSh asSh = true ∨ ∀ (i : Nat), i < m → rowOb asSh 0 (f i) (f i),
 (MS.mk x.S.M (IntKind.i64.wrap (x.S.st + 1)) (LS.mk 1 0 0 0 (mget x.S.M (key 0 0 0)) (mget x.S.M (key 0 0 0)) false)).st = (gPut x (mLoad x.S 0 0 0) (rLoad x.R 0 0 0) j (FO.mk 0 (mget x.S.M (key 0 0 0)) nx n sl)).S.st,
 (1 : Int) = 1,
 (0 : Int) = 0,
 (0 : Int) = 0,
 (0 : Int) = 0,
 (MS.mk x.S.M (IntKind.i64.wrap (x.S.st + 1)) (LS.mk 1 0 0 0 (mget x.S.M (key 0 0 0)) (mget x.S.M (key 0 0 0)) false)).L.w = (gPut x (mLoad x.S 0 0 0) (rLoad x.R 0 0 0) j (FO.mk 0 (mget x.S.M (key 0 0 0)) nx n sl)).S.L.w,
 (MS.mk x.S.M (IntKind.i64.wrap (x.S.st + 1)) (LS.mk 1 0 0 0 (mget x.S.M (key 0 0 0)) (mget x.S.M (key 0 0 0)) false)).L.i = (gPut x (mLoad x.S 0 0 0) (rLoad x.R 0 0 0) j (FO.mk 0 (mget x.S.M (key 0 0 0)) nx n sl)).S.L.i,
 (MS.mk x.S.M (IntKind.i64.wrap (x.S.st + 1)) (LS.mk 1 0 0 0 (mget x.S.M (key 0 0 0)) (mget x.S.M (key 0 0 0)) false)).L.d = (gPut x (mLoad x.S 0 0 0) (rLoad x.R 0 0 0) j (FO.mk 0 (mget x.S.M (key 0 0 0)) nx n sl)).S.L.d,
 ∀ (k : List Int), (MS.mk x.S.M (IntKind.i64.wrap (x.S.st + 1)) (LS.mk 1 0 0 0 (mget x.S.M (key 0 0 0)) (mget x.S.M (key 0 0 0)) false)).M k = (gPut x (mLoad x.S 0 0 0) (rLoad x.R 0 0 0) j (FO.mk 0 (mget x.S.M (key 0 0 0)) nx n sl)).S.M k,
 (0 : Nat) = 0,
 x.R.D.n = (gPut x (mLoad x.S 0 0 0) (rLoad x.R 0 0 0) j (FO.mk 0 (mget x.S.M (key 0 0 0)) nx n sl)).R.D.n,
 (none : Option Nat) = none,
 IntKind.i64.wrap (x.R.st + 1) = (gPut x (mLoad x.S 0 0 0) (rLoad x.R 0 0 0) j (FO.mk 0 (mget x.S.M (key 0 0 0)) nx n sl)).R.st,
 (1 : Int) = 1,
 (0 : Int) = 0,
 (0 : Int) = 0,
 (0 : Int) = 0,
 (LS.mk 1 0 0 0 (dWord (dOf x.R.D.n (wdF x.R.D.W)) 0 0 0) (dWord (dOf x.R.D.n (wdF x.R.D.W)) 0 0 0) false).w = (gPut x (mLoad x.S 0 0 0) (rLoad x.R 0 0 0) j (FO.mk 0 (mget x.S.M (key 0 0 0)) nx n sl)).R.L.w,
 (LS.mk 1 0 0 0 (dWord (dOf x.R.D.n (wdF x.R.D.W)) 0 0 0) (dWord (dOf x.R.D.n (wdF x.R.D.W)) 0 0 0) false).i = (gPut x (mLoad x.S 0 0 0) (rLoad x.R 0 0 0) j (FO.mk 0 (mget x.S.M (key 0 0 0)) nx n sl)).R.L.i,
 (LS.mk 1 0 0 0 (dWord (dOf x.R.D.n (wdF x.R.D.W)) 0 0 0) (dWord (dOf x.R.D.n (wdF x.R.D.W)) 0 0 0) false).d = (gPut x (mLoad x.S 0 0 0) (rLoad x.R 0 0 0) j (FO.mk 0 (mget x.S.M (key 0 0 0)) nx n sl)).R.L.d,
 false = false,
 (gPut x (mLoad x.S 0 0 0) (rLoad x.R 0 0 0) j (FO.mk 0 (mget x.S.M (key 0 0 0)) nx n sl)).R.D.n ≤ x.R.D.n,
 wdF (gPut x (mLoad x.S 0 0 0) (rLoad x.R 0 0 0) j (FO.mk 0 (mget x.S.M (key 0 0 0)) nx n sl)).R.D.W = wdF x.R.D.W ∧ plainSh wSh = true ∨ ∀ (i : Nat), i < (gPut x (mLoad x.S 0 0 0) (rLoad x.R 0 0 0) j (FO.mk 0 (mget x.S.M (key 0 0 0)) nx n sl)).R.D.n → rowOb wSh 0 (wdF x.R.D.W i) (wdF (gPut x (mLoad x.S 0 0 0) (rLoad x.R 0 0 0) j (FO.mk 0 (mget x.S.M (key 0 0 0)) nx n sl)).R.D.W i),
 Both (MS.mk x.S.M (IntKind.i64.wrap (x.S.st + 1)) (LS.mk 1 0 0 0 (mget x.S.M (key 0 0 0)) (mget x.S.M (key 0 0 0)) false)) (mkR x.R.D.n (wdF x.R.D.W) (IntKind.i64.wrap (x.R.st + 1)) (LS.mk 1 0 0 0 (dWord (dOf x.R.D.n (wdF x.R.D.W)) 0 0 0) (dWord (dOf x.R.D.n (wdF x.R.D.W)) 0 0 0) false)),
 decide (hSlot (mget x.S.M (key 0 0 0)) < 0) = true,
 TabIs tab (tabF tab),
 0 ≤ mget x.S.M (key 0 0 0),
 mget x.S.M (key 0 0 0) < 18446744073709551616,
 decide (hSlot (dWord (dOf x.R.D.n (wdF x.R.D.W)) 0 0 0) < 0) = true,
 0 ≤ dWord (dOf x.R.D.n (wdF x.R.D.W)) 0 0 0,
 dWord (dOf x.R.D.n (wdF x.R.D.W)) 0 0 0 < 18446744073709551616,
 x.R.D.n ≤ x.R.D.n,
 x.R.D.n ≤ 1000000,
 0 ≤ (FO.mk 1 hh nx n sl).h,
 (FO.mk 1 hh nx n sl).h < 18446744073709551616,
 lrow fam0 2 (fpT m f ii x).M j (0 + ((IntKind.u64.wrap (avInt (f (0 + ii) 1))).tmod (IntKind.u64.wrap (Int.ofNat x.n))).toNat) 2 = AV.ptr 901 0 0,
 lrow fam0 2 (fpT m f ii x).M j (0 + ((IntKind.u64.wrap (avInt (f (0 + ii) 1))).tmod (IntKind.u64.wrap (Int.ofNat x.n))).toNat) 1 = AV.nilp,
 lrow fam0 2 (fpT m f ii x).M j (0 + ((IntKind.u64.wrap (avInt (f (0 + ii) 1))).tmod (IntKind.u64.wrap (Int.ofNat x.n))).toNat) 0 = AV.ptr 900 0 0,
 (0 + ((IntKind.u64.wrap (avInt (f (0 + ii) 1))).tmod (IntKind.u64.wrap (Int.ofNat x.n))).toNat).blt (fpT m f ii x).n = true,
 (((IntKind.u64.wrap (avInt (f (0 + ii) 1))).tmod (IntKind.u64.wrap (Int.ofNat x.n))).toNat.blt x.n && decide (0 ≤ (IntKind.u64.wrap (avInt (f (0 + ii) 1))).tmod (IntKind.u64.wrap (Int.ofNat x.n)))) = true,
 decide (IntKind.u64.wrap (Int.ofNat x.n) ≠ 0) = true,
 (Int.ofNat x.n == 0) = false,
 ((avInt (f (0 + ii) 0)).tmod 6 == 2) = false,
 ((avInt (f (0 + ii) 0)).tmod 6 == 1) = false,
 ((avInt (f (0 + ii) 0)).tmod 6 == 0) = false,
 (0 + ii).blt m = true,
 (ii.blt m && decide (0 ≤ Int.ofNat ii)) = true,
 decide (Int.ofNat ii < Int.ofNat m) = true]) := by kernel_rfl
theorem f1b_1 (m : Nat) (f : Nat → Nat → AV) (q : Nat) (h : Nat → Nat → AV) (ii : Nat) (x : GX FO) (j : Nat) (hh nx n sl : Int) : roundB Efp 3000 fpL (h0F fpF (fpU m f q h)) [(8, Src.nm 8), (9, Src.nm 9), (900, Src.nm 900), (901, Src.nm 901)] (locSt fpF (fpT m f ii x) true (fpMb (FO.mk 1 hh nx n sl)) j []) [Hint.b true, Hint.b false, Hint.b false, Hint.b false, Hint.b false, Hint.a (AV.ptr 900 0 0), Hint.a AV.nilp, Hint.a (AV.ptr 901 0 0), Hint.b false, Hint.b false] (locSt fpF (fpT m f (ii + 1) (gPut x (mLoad x.S 0 0 0) (rLoad x.R 0 0 0) j (FO.mk 2 (mget x.S.M (key 0 0 0)) nx n sl))) true (fpMb (FO.mk 2 (mget x.S.M (key 0 0 0)) nx n sl)) j []) =
 some (Ex.norm, [(0 : Nat) = 0,
 m = m,
 (none : Option Nat) = none,
 (0 : Nat) = 0,
 (0 : Nat) = 0,
 (0 : Nat) = 0,
 x.n = (gPut x (mLoad x.S 0 0 0) (rLoad x.R 0 0 0) j (FO.mk 2 (mget x.S.M (key 0 0 0)) nx n sl)).n,
 (none : Option Nat) = none,
 IntKind.i64.wrap (Int.ofNat ii + 1) = Int.ofNat (ii + 1),
 mget x.S.M (key 0 0 0) = (FO.mk 2 (mget x.S.M (key 0 0 0)) nx n sl).h,
 (FO.mk 1 hh nx n sl).nx = (FO.mk 2 (mget x.S.M (key 0 0 0)) nx n sl).nx,
 dWord (dOf x.R.D.n (wdF x.R.D.W)) 0 0 0 = (FO.mk 2 (mget x.S.M (key 0 0 0)) nx n sl).h,
 (FO.mk 1 hh nx n sl).n = (FO.mk 2 (mget x.S.M (key 0 0 0)) nx n sl).n,
 false = false,
 (fpT m f (ii + 1) (gPut x (mLoad x.S 0 0 0) (rLoad x.R 0 0 0) j (FO.mk 2 (mget x.S.M (key 0 0 0)) nx n sl))).n ≤ (fpT m f ii x).n,
 ∀ (i : Nat), i < (fpT m f (ii + 1) (gPut x (mLoad x.S 0 0 0) (rLoad x.R 0 0 0) j (FO.mk 2 (mget x.S.M (key 0 0 0)) nx n sl))).n → rowV (CM.mk 8 fam0 [(8, Src.nm 8), (9, Src.nm 9), (900, Src.nm 900), (901, Src.nm 901)]) fpF.sh 0 (lrow fam0 2 (fpT m f ii x).M j i) (lrow fam0 2 (fpT m f (ii + 1) (gPut x (mLoad x.S 0 0 0) (rLoad x.R 0 0 0) j (FO.mk 2 (mget x.S.M (key 0 0 0)) nx n sl))).M j i),
 (0 : Nat) = 0,
 (0 : Nat) = 0,
 (0 : Nat) = 0,
 (0 : Nat) = 0,
 true = true,
 (1 : Nat) ≤ (1 : Nat),
 tabF tab = tabF tab ∧ plainSh (List.map kindOfV tab) = true ∨ ∀ (i : Nat), i < 1 → rowOb (List.map kindOfV tab) 0 (tabF tab i) (tabF tab i),
 true = true,
 m ≤ m,
 f = f ∧ plainSh asSh = true ∨ ∀ (i : Nat), i < m → rowOb asSh 0 (f i) (f i),
 (MS.mk x.S.M (IntKind.i64.wrap (x.S.st + 1)) (LS.mk 1 0 0 0 (mget x.S.M (key 0 0 0)) (mget x.S.M (key 0 0 0)) false)).st = (gPut x (mLoad x.S 0 0 0) (rLoad x.R 0 0 0) j (FO.mk 2 (mget x.S.M (key 0 0 0)) nx n sl)).S.st,
 (1 : Int) = 1,
 (0 : Int) = 0,
 (0 : Int) = 0,
 (0 : Int) = 0,
 (MS.mk x.S.M (IntKind.i64.wrap (x.S.st + 1)) (LS.mk 1 0 0 0 (mget x.S.M (key 0 0 0)) (mget x.S.M (key 0 0 0)) false)).L.w = (gPut x (mLoad x.S 0 0 0) (rLoad x.R 0 0 0) j (FO.mk 2 (mget x.S.M (key 0 0 0)) nx n sl)).S.L.w,
 (MS.mk x.S.M (IntKind.i64.wrap (x.S.st + 1)) (LS.mk 1 0 0 0 (mget x.S.M (key 0 0 0)) (mget x.S.M (key 0 0 0)) false)).L.i = (gPut x (mLoad x.S 0 0 0) (rLoad x.R 0 0 0) j (FO.mk 2 (mget x.S.M (key 0 0 0)) nx n sl)).S.L.i,
 (MS.mk x.S.M (IntKind.i64.wrap (x.S.st + 1)) (LS.mk 1 0 0 0 (mget x.S.M (key 0 0 0)) (mget x.S.M (key 0 0 0)) false)).L.d = (gPut x (mLoad x.S 0 0 0) (rLoad x.R 0 0 0) j (FO.mk 2 (mget x.S.M (key 0 0 0)) nx n sl)).S.L.d,
 ∀ (k : List Int), (MS.mk x.S.M (IntKind.i64.wrap (x.S.st + 1)) (LS.mk 1 0 0 0 (mget x.S.M (key 0 0 0)) (mget x.S.M (key 0 0 0)) false)).M k = (gPut x (mLoad x.S 0 0 0) (rLoad x.R 0 0 0) j (FO.mk 2 (mget x.S.M (key 0 0 0)) nx n sl)).S.M k,
 (0 : Nat) = 0,
 x.R.D.n = (gPut x (mLoad x.S 0 0 0) (rLoad x.R 0 0 0) j (FO.mk 2 (mget x.S.M (key 0 0 0)) nx n sl)).R.D.n,
 (none : Option Nat) = none,
 IntKind.i64.wrap (x.R.st + 1) = (gPut x (mLoad x.S 0 0 0) (rLoad x.R 0 0 0) j (FO.mk 2 (mget x.S.M (key 0 0 0)) nx n sl)).R.st,
 (1 : Int) = 1,
 (0 : Int) = 0,
 (0 : Int) = 0,
 (0 : Int) = 0,
 (LS.mk 1 0 0 0 (dWord (dOf x.R.D.n (wdF x.R.D.W)) 0 0 0) (dWord (dOf x.R.D.n (wdF x.R.D.W)) 0 0 0) false).w = (gPut x (mLoad x.S 0 0 0) (rLoad x.R 0 0 0) j (FO.mk 2 (mget x.S.M (key 0 0 0)) nx n sl)).R.L.w,
 (LS.mk 1 0 0 0 (dWord (dOf x.R.D.n (wdF x.R.D.W)) 0 0 0) (dWord (dOf x.R.D.n (wdF x.R.D.W)) 0 0 0) false).i = (gPut x (mLoad x.S 0 0 0) (rLoad x.R 0 0 0) j (FO.mk 2 (mget x.S.M (key 0 0 0)) nx n sl)).R.L.i,
 (LS.mk 1 0 0 0 (dWord (dOf x.R.D.n (wdF x.R.D.W)) 0 0 0) (dWord (dOf x.R.D.n (wdF x.R.D.W)) 0 0 0) false).d = (gPut x (mLoad x.S 0 0 0) (rLoad x.R 0 0 0) j (FO.mk 2 (mget x.S.M (key 0 0 0)) nx n sl)).R.L.d,
 false = false,
 (gPut x (mLoad x.S 0 0 0) (rLoad x.R 0 0 0) j (FO.mk 2 (mget x.S.M (key 0 0 0)) nx n sl)).R.D.n ≤ x.R.D.n,
 wdF (gPut x (mLoad x.S 0 0 0) (rLoad x.R 0 0 0) j (FO.mk 2 (mget x.S.M (key 0 0 0)) nx n sl)).R.D.W = wdF x.R.D.W ∧ plainSh wSh = true ∨ ∀ (i : Nat), i < (gPut x (mLoad x.S 0 0 0) (rLoad x.R 0 0 0) j (FO.mk 2 (mget x.S.M (key 0 0 0)) nx n sl)).R.D.n → rowOb wSh 0 (wdF x.R.D.W i) (wdF (gPut x (mLoad x.S 0 0 0) (rLoad x.R 0 0 0) j (FO.mk 2 (mget x.S.M (key 0 0 0)) nx n sl)).R.D.W i),
 Both (MS.mk x.S.M (IntKind.i64.wrap (x.S.st + 1)) (LS.mk 1 0 0 0 (mget x.S.M (key 0 0 0)) (mget x.S.M (key 0 0 0)) false)) (mkR x.R.D.n (wdF x.R.D.W) (IntKind.i64.wrap (x.R.st + 1)) (LS.mk 1 0 0 0 (dWord (dOf x.R.D.n (wdF x.R.D.W)) 0 0 0) (dWord (dOf x.R.D.n (wdF x.R.D.W)) 0 0 0) false)),
 decide (hSlot (mget x.S.M (key 0 0 0)) < 0) = false,
 TabIs tab (tabF tab),
 0 ≤ mget x.S.M (key 0 0 0),
 mget x.S.M (key 0 0 0) < 18446744073709551616,
 decide (hSlot (dWord (dOf x.R.D.n (wdF x.R.D.W)) 0 0 0) < 0) = false,
 0 ≤ dWord (dOf x.R.D.n (wdF x.R.D.W)) 0 0 0,
 dWord (dOf x.R.D.n (wdF x.R.D.W)) 0 0 0 < 18446744073709551616,
 x.R.D.n ≤ x.R.D.n,
 x.R.D.n ≤ 1000000,
 0 ≤ (FO.mk 1 hh nx n sl).h,
 (FO.mk 1 hh nx n sl).h < 18446744073709551616,
 lrow fam0 2 (fpT m f ii x).M j (0 + ((IntKind.u64.wrap (avInt (f (0 + ii) 1))).tmod (IntKind.u64.wrap (Int.ofNat x.n))).toNat) 2 = AV.ptr 901 0 0,
 lrow fam0 2 (fpT m f ii x).M j (0 + ((IntKind.u64.wrap (avInt (f (0 + ii) 1))).tmod (IntKind.u64.wrap (Int.ofNat x.n))).toNat) 1 = AV.nilp,
 lrow fam0 2 (fpT m f ii x).M j (0 + ((IntKind.u64.wrap (avInt (f (0 + ii) 1))).tmod (IntKind.u64.wrap (Int.ofNat x.n))).toNat) 0 = AV.ptr 900 0 0,
 (0 + ((IntKind.u64.wrap (avInt (f (0 + ii) 1))).tmod (IntKind.u64.wrap (Int.ofNat x.n))).toNat).blt (fpT m f ii x).n = true,
 (((IntKind.u64.wrap (avInt (f (0 + ii) 1))).tmod (IntKind.u64.wrap (Int.ofNat x.n))).toNat.blt x.n && decide (0 ≤ (IntKind.u64.wrap (avInt (f (0 + ii) 1))).tmod (IntKind.u64.wrap (Int.ofNat x.n)))) = true,
 decide (IntKind.u64.wrap (Int.ofNat x.n) ≠ 0) = true,
 (Int.ofNat x.n == 0) = false,
 ((avInt (f (0 + ii) 0)).tmod 6 == 2) = false,
 ((avInt (f (0 + ii) 0)).tmod 6 == 1) = false,
 ((avInt (f (0 + ii) 0)).tmod 6 == 0) = false,
 (0 + ii).blt m = true,
 (ii.blt m && decide (0 ≤ Int.ofNat ii)) = true,
 decide (Int.ofNat ii < Int.ofNat m) = true]) := by kernel_rfl
theorem f2_1 (m : Nat) (f : Nat → Nat → AV) (q : Nat) (h : Nat → Nat → AV) (ii : Nat) (x : GX FO) (j : Nat) (hh nx n sl : Int) : roundB Efp 3000 fpL (h0F fpF (fpU m f q h)) [(8, Src.nm 8), (9, Src.nm 9), (900, Src.nm 900), (901, Src.nm 901)] (locSt fpF (fpT m f ii x) true (fpMb (FO.mk 2 hh nx n sl)) j []) [Hint.b true, Hint.b false, Hint.b false, Hint.b false, Hint.b false, Hint.a (AV.ptr 900 0 0), Hint.a AV.nilp, Hint.a (AV.ptr 901 0 0)] (locSt fpF (fpT m f (ii + 1) (gPut x (mLoad x.S 9 (hSlot hh) 2) (rLoad x.R 9 (hSlot hh) 2) j (FO.mk 3 hh nx (mget x.S.M (key 9 (hSlot hh) 2)) sl))) true (fpMb (FO.mk 3 hh nx (mget x.S.M (key 9 (hSlot hh) 2)) sl)) j []) =
 some (Ex.norm, [(0 : Nat) = 0,
 m = m,
 (none : Option Nat) = none,
 (0 : Nat) = 0,
 (0 : Nat) = 0,
 (0 : Nat) = 0,
 x.n = (gPut x (mLoad x.S 9 (hSlot hh) 2) (rLoad x.R 9 (hSlot hh) 2) j (FO.mk 3 hh nx (mget x.S.M (key 9 (hSlot hh) 2)) sl)).n,
 (none : Option Nat) = none,
 IntKind.i64.wrap (Int.ofNat ii + 1) = Int.ofNat (ii + 1),
 (FO.mk 2 hh nx n sl).h = (FO.mk 3 hh nx (mget x.S.M (key 9 (hSlot hh) 2)) sl).h,
 hSlot (mget x.S.M (key 9 (hSlot (FO.mk 2 hh nx n sl).h) 2)) = hSlot (FO.mk 3 hh nx (mget x.S.M (key 9 (hSlot hh) 2)) sl).n,
 (FO.mk 2 hh nx n sl).h = (FO.mk 3 hh nx (mget x.S.M (key 9 (hSlot hh) 2)) sl).h,
 dWord (dOf x.R.D.n (wdF x.R.D.W)) 9 (hSlot (FO.mk 2 hh nx n sl).h) 2 = (FO.mk 3 hh nx (mget x.S.M (key 9 (hSlot hh) 2)) sl).n,
 false = false,
 (fpT m f (ii + 1) (gPut x (mLoad x.S 9 (hSlot hh) 2) (rLoad x.R 9 (hSlot hh) 2) j (FO.mk 3 hh nx (mget x.S.M (key 9 (hSlot hh) 2)) sl))).n ≤ (fpT m f ii x).n,
 ∀ (i : Nat), i < (fpT m f (ii + 1) (gPut x (mLoad x.S 9 (hSlot hh) 2) (rLoad x.R 9 (hSlot hh) 2) j (FO.mk 3 hh nx (mget x.S.M (key 9 (hSlot hh) 2)) sl))).n → rowV (CM.mk 8 fam0 [(8, Src.nm 8), (9, Src.nm 9), (900, Src.nm 900), (901, Src.nm 901)]) fpF.sh 0 (lrow fam0 2 (fpT m f ii x).M j i) (lrow fam0 2 (fpT m f (ii + 1) (gPut x (mLoad x.S 9 (hSlot hh) 2) (rLoad x.R 9 (hSlot hh) 2) j (FO.mk 3 hh nx (mget x.S.M (key 9 (hSlot hh) 2)) sl))).M j i),
 (0 : Nat) = 0,
 (0 : Nat) = 0,
 (0 : Nat) = 0,
 (0 : Nat) = 0,
 true = true,
 (1 : Nat) ≤ (1 : Nat),
 tabF tab = tabF tab ∧ plainSh (List.map kindOfV tab) = true ∨ ∀ (i : Nat), i < 1 → rowOb (List.map kindOfV tab) 0 (tabF tab i) (tabF tab i),
 true = true,
 m ≤ m,
 f = f ∧ plainSh asSh = true ∨ ∀ (i : Nat), i < m → rowOb asSh 0 (f i) (f i),
 (MS.mk x.S.M (IntKind.i64.wrap (x.S.st + 1)) (LS.mk 1 9 (hSlot (FO.mk 2 hh nx n sl).h) 2 (mget x.S.M (key 9 (hSlot (FO.mk 2 hh nx n sl).h) 2)) (mget x.S.M (key 9 (hSlot (FO.mk 2 hh nx n sl).h) 2)) false)).st = (gPut x (mLoad x.S 9 (hSlot hh) 2) (rLoad x.R 9 (hSlot hh) 2) j (FO.mk 3 hh nx (mget x.S.M (key 9 (hSlot hh) 2)) sl)).S.st,
 (1 : Int) = 1,
 (9 : Int) = 9,
 (MS.mk x.S.M (IntKind.i64.wrap (x.S.st + 1)) (LS.mk 1 9 (hSlot (FO.mk 2 hh nx n sl).h) 2 (mget x.S.M (key 9 (hSlot (FO.mk 2 hh nx n sl).h) 2)) (mget x.S.M (key 9 (hSlot (FO.mk 2 hh nx n sl).h) 2)) false)).L.a = (gPut x (mLoad x.S 9 (hSlot hh) 2) (rLoad x.R 9 (hSlot hh) 2) j (FO.mk 3 hh nx (mget x.S.M (key 9 (hSlot hh) 2)) sl)).S.L.a,
 (2 : Int) = 2,
 (MS.mk x.S.M (IntKind.i64.wrap (x.S.st + 1)) (LS.mk 1 9 (hSlot (FO.mk 2 hh nx n sl).h) 2 (mget x.S.M (key 9 (hSlot (FO.mk 2 hh nx n sl).h) 2)) (mget x.S.M (key 9 (hSlot (FO.mk 2 hh nx n sl).h) 2)) false)).L.w = (gPut x (mLoad x.S 9 (hSlot hh) 2) (rLoad x.R 9 (hSlot hh) 2) j (FO.mk 3 hh nx (mget x.S.M (key 9 (hSlot hh) 2)) sl)).S.L.w,
 (MS.mk x.S.M (IntKind.i64.wrap (x.S.st + 1)) (LS.mk 1 9 (hSlot (FO.mk 2 hh nx n sl).h) 2 (mget x.S.M (key 9 (hSlot (FO.mk 2 hh nx n sl).h) 2)) (mget x.S.M (key 9 (hSlot (FO.mk 2 hh nx n sl).h) 2)) false)).L.i = (gPut x (mLoad x.S 9 (hSlot hh) 2) (rLoad x.R 9 (hSlot hh) 2) j (FO.mk 3 hh nx (mget x.S.M (key 9 (hSlot hh) 2)) sl)).S.L.i,
 (MS.mk x.S.M (IntKind.i64.wrap (x.S.st + 1)) (LS.mk 1 9 (hSlot (FO.mk 2 hh nx n sl).h) 2 (mget x.S.M (key 9 (hSlot (FO.mk 2 hh nx n sl).h) 2)) (mget x.S.M (key 9 (hSlot (FO.mk 2 hh nx n sl).h) 2)) false)).L.d = (gPut x (mLoad x.S 9 (hSlot hh) 2) (rLoad x.R 9 (hSlot hh) 2) j (FO.mk 3 hh nx (mget x.S.M (key 9 (hSlot hh) 2)) sl)).S.L.d,
 ∀ (k : List Int), (MS.mk x.S.M (IntKind.i64.wrap (x.S.st + 1)) (LS.mk 1 9 (hSlot (FO.mk 2 hh nx n sl).h) 2 (mget x.S.M (key 9 (hSlot (FO.mk 2 hh nx n sl).h) 2)) (mget x.S.M (key 9 (hSlot (FO.mk 2 hh nx n sl).h) 2)) false)).M k = (gPut x (mLoad x.S 9 (hSlot hh) 2) (rLoad x.R 9 (hSlot hh) 2) j (FO.mk 3 hh nx (mget x.S.M (key 9 (hSlot hh) 2)) sl)).S.M k,
 (0 : Nat) = 0,
 x.R.D.n = (gPut x (mLoad x.S 9 (hSlot hh) 2) (rLoad x.R 9 (hSlot hh) 2) j (FO.mk 3 hh nx (mget x.S.M (key 9 (hSlot hh) 2)) sl)).R.D.n,
 (none : Option Nat) = none,
 IntKind.i64.wrap (x.R.st + 1) = (gPut x (mLoad x.S 9 (hSlot hh) 2) (rLoad x.R 9 (hSlot hh) 2) j (FO.mk 3 hh nx (mget x.S.M (key 9 (hSlot hh) 2)) sl)).R.st,
 (1 : Int) = 1,
 (9 : Int) = 9,
 (LS.mk 1 9 (hSlot (FO.mk 2 hh nx n sl).h) 2 (dWord (dOf x.R.D.n (wdF x.R.D.W)) 9 (hSlot (FO.mk 2 hh nx n sl).h) 2) (dWord (dOf x.R.D.n (wdF x.R.D.W)) 9 (hSlot (FO.mk 2 hh nx n sl).h) 2) false).a = (gPut x (mLoad x.S 9 (hSlot hh) 2) (rLoad x.R 9 (hSlot hh) 2) j (FO.mk 3 hh nx (mget x.S.M (key 9 (hSlot hh) 2)) sl)).R.L.a,
 (2 : Int) = 2,
 (LS.mk 1 9 (hSlot (FO.mk 2 hh nx n sl).h) 2 (dWord (dOf x.R.D.n (wdF x.R.D.W)) 9 (hSlot (FO.mk 2 hh nx n sl).h) 2) (dWord (dOf x.R.D.n (wdF x.R.D.W)) 9 (hSlot (FO.mk 2 hh nx n sl).h) 2) false).w = (gPut x (mLoad x.S 9 (hSlot hh) 2) (rLoad x.R 9 (hSlot hh) 2) j (FO.mk 3 hh nx (mget x.S.M (key 9 (hSlot hh) 2)) sl)).R.L.w,
 (LS.mk 1 9 (hSlot (FO.mk 2 hh nx n sl).h) 2 (dWord (dOf x.R.D.n (wdF x.R.D.W)) 9 (hSlot (FO.mk 2 hh nx n sl).h) 2) (dWord (dOf x.R.D.n (wdF x.R.D.W)) 9 (hSlot (FO.mk 2 hh nx n sl).h) 2) false).i = (gPut x (mLoad x.S 9 (hSlot hh) 2) (rLoad x.R 9 (hSlot hh) 2) j (FO.mk 3 hh nx (mget x.S.M (key 9 (hSlot hh) 2)) sl)).R.L.i,
 (LS.mk 1 9 (hSlot (FO.mk 2 hh nx n sl).h) 2 (dWord (dOf x.R.D.n (wdF x.R.D.W)) 9 (hSlot (FO.mk 2 hh nx n sl).h) 2) (dWord (dOf x.R.D.n (wdF x.R.D.W)) 9 (hSlot (FO.mk 2 hh nx n sl).h) 2) false).d = (gPut x (mLoad x.S 9 (hSlot hh) 2) (rLoad x.R 9 (hSlot hh) 2) j (FO.mk 3 hh nx (mget x.S.M (key 9 (hSlot hh) 2)) sl)).R.L.d,
 false = false,
 (gPut x (mLoad x.S 9 (hSlot hh) 2) (rLoad x.R 9 (hSlot hh) 2) j (FO.mk 3 hh nx (mget x.S.M (key 9 (hSlot hh) 2)) sl)).R.D.n ≤ x.R.D.n,
 wdF (gPut x (mLoad x.S 9 (hSlot hh) 2) (rLoad x.R 9 (hSlot hh) 2) j (FO.mk 3 hh nx (mget x.S.M (key 9 (hSlot hh) 2)) sl)).R.D.W = wdF x.R.D.W ∧ plainSh wSh = true ∨ ∀ (i : Nat), i < (gPut x (mLoad x.S 9 (hSlot hh) 2) (rLoad x.R 9 (hSlot hh) 2) j (FO.mk 3 hh nx (mget x.S.M (key 9 (hSlot hh) 2)) sl)).R.D.n → rowOb wSh 0 (wdF x.R.D.W i) (wdF (gPut x (mLoad x.S 9 (hSlot hh) 2) (rLoad x.R 9 (hSlot hh) 2) j (FO.mk 3 hh nx (mget x.S.M (key 9 (hSlot hh) 2)) sl)).R.D.W i),
 Both (MS.mk x.S.M (IntKind.i64.wrap (x.S.st + 1)) (LS.mk 1 9 (hSlot (FO.mk 2 hh nx n sl).h) 2 (mget x.S.M (key 9 (hSlot (FO.mk 2 hh nx n sl).h) 2)) (mget x.S.M (key 9 (hSlot (FO.mk 2 hh nx n sl).h) 2)) false)) (mkR x.R.D.n (wdF x.R.D.W) (IntKind.i64.wrap (x.R.st + 1)) (LS.mk 1 9 (hSlot (FO.mk 2 hh nx n sl).h) 2 (dWord (dOf x.R.D.n (wdF x.R.D.W)) 9 (hSlot (FO.mk 2 hh nx n sl).h) 2) (dWord (dOf x.R.D.n (wdF x.R.D.W)) 9 (hSlot (FO.mk 2 hh nx n sl).h) 2) false)),
 TabIs tab (tabF tab),
 0 ≤ mget x.S.M (key 9 (hSlot (FO.mk 2 hh nx n sl).h) 2),
 mget x.S.M (key 9 (hSlot (FO.mk 2 hh nx n sl).h) 2) < 18446744073709551616,
 TabIs tab (tabF tab),
 0 ≤ (FO.mk 2 hh nx n sl).h,
 (FO.mk 2 hh nx n sl).h < 18446744073709551616,
 x.R.D.n ≤ x.R.D.n,
 x.R.D.n ≤ 1000000,
 0 ≤ (FO.mk 2 hh nx n sl).h,
 (FO.mk 2 hh nx n sl).h < 18446744073709551616,
 lrow fam0 2 (fpT m f ii x).M j (0 + ((IntKind.u64.wrap (avInt (f (0 + ii) 1))).tmod (IntKind.u64.wrap (Int.ofNat x.n))).toNat) 2 = AV.ptr 901 0 0,
 lrow fam0 2 (fpT m f ii x).M j (0 + ((IntKind.u64.wrap (avInt (f (0 + ii) 1))).tmod (IntKind.u64.wrap (Int.ofNat x.n))).toNat) 1 = AV.nilp,
 lrow fam0 2 (fpT m f ii x).M j (0 + ((IntKind.u64.wrap (avInt (f (0 + ii) 1))).tmod (IntKind.u64.wrap (Int.ofNat x.n))).toNat) 0 = AV.ptr 900 0 0,
 (0 + ((IntKind.u64.wrap (avInt (f (0 + ii) 1))).tmod (IntKind.u64.wrap (Int.ofNat x.n))).toNat).blt (fpT m f ii x).n = true,
 (((IntKind.u64.wrap (avInt (f (0 + ii) 1))).tmod (IntKind.u64.wrap (Int.ofNat x.n))).toNat.blt x.n && decide (0 ≤ (IntKind.u64.wrap (avInt (f (0 + ii) 1))).tmod (IntKind.u64.wrap (Int.ofNat x.n)))) = true,
 decide (IntKind.u64.wrap (Int.ofNat x.n) ≠ 0) = true,
 (Int.ofNat x.n == 0) = false,
 ((avInt (f (0 + ii) 0)).tmod 6 == 2) = false,
 ((avInt (f (0 + ii) 0)).tmod 6 == 1) = false,
 ((avInt (f (0 + ii) 0)).tmod 6 == 0) = false,
 (0 + ii).blt m = true,
 (ii.blt m && decide (0 ≤ Int.ofNat ii)) = true,
 decide (Int.ofNat ii < Int.ofNat m) = true]) := by kernel_rfl
theorem f3a_1 (m : Nat) (f : Nat → Nat → AV) (q : Nat) (h : Nat → Nat → AV) (ii : Nat) (x : GX FO) (j : Nat) (hh nx n sl : Int) : roundB Efp 3000 fpL (h0F fpF (fpU m f q h)) [(8, Src.nm 8), (9, Src.nm 1022934564967544334379121780258624735067700639388457746713528552530041811376460798401021903851845049109652088789862522190380392670589185329165164872673), (900, Src.nm 900), (901, Src.nm 901)] (locSt fpF (fpT m f ii x) true (fpMb (FO.mk 3 hh nx n sl)) j []) [Hint.b true, Hint.b false, Hint.b false, Hint.b false, Hint.b false, Hint.a (AV.ptr 900 0 0), Hint.a AV.nilp, Hint.a (AV.ptr 901 0 0), Hint.node [], Hint.b true, Hint.node [(8, [Hint.node [], Hint.b false])], Hint.node [], Hint.b false] (locSt fpF (fpT m f (ii + 1) (gPut x (mCas x.S 0 0 0 hh (hHead (hSlot n) (IntKind.u64.wrap (hTag hh + 1)))) (rCas x.R 0 0 0 hh (hHead (hSlot n) (IntKind.u64.wrap (hTag hh + 1)))) j (FO.mk 4 hh (hSlot n) n (hSlot hh)))) true (fpMb (FO.mk 4 hh (hSlot n) n (hSlot hh))) j []) =
 some (Ex.norm, [(0 : Nat) = 0,
 m = m,
 (none : Option Nat) = none,
 (0 : Nat) = 0,
 (0 : Nat) = 0,
 (0 : Nat) = 0,
 x.n = (gPut x (mCas x.S 0 0 0 hh (hHead (hSlot n) (IntKind.u64.wrap (hTag hh + 1)))) (rCas x.R 0 0 0 hh (hHead (hSlot n) (IntKind.u64.wrap (hTag hh + 1)))) j (FO.mk 4 hh (hSlot n) n (hSlot hh))).n,
 (none : Option Nat) = none,
 IntKind.i64.wrap (Int.ofNat ii + 1) = Int.ofNat (ii + 1),
 (FO.mk 3 hh nx n sl).h = (FO.mk 4 hh (hSlot n) n (hSlot hh)).h,
 hSlot (FO.mk 3 hh nx n sl).n = (FO.mk 4 hh (hSlot n) n (hSlot hh)).nx,
 hSlot (FO.mk 3 hh nx n sl).h = (FO.mk 4 hh (hSlot n) n (hSlot hh)).sl,
 hSlot (FO.mk 3 hh nx n sl).h = (FO.mk 4 hh (hSlot n) n (hSlot hh)).sl,
 (FO.mk 3 hh nx n sl).h = (FO.mk 4 hh (hSlot n) n (hSlot hh)).h,
 (FO.mk 3 hh nx n sl).n = (FO.mk 4 hh (hSlot n) n (hSlot hh)).n,
 false = false,
 (fpT m f (ii + 1) (gPut x (mCas x.S 0 0 0 hh (hHead (hSlot n) (IntKind.u64.wrap (hTag hh + 1)))) (rCas x.R 0 0 0 hh (hHead (hSlot n) (IntKind.u64.wrap (hTag hh + 1)))) j (FO.mk 4 hh (hSlot n) n (hSlot hh)))).n ≤ (fpT m f ii x).n,
 ∀ (i : Nat), i < (fpT m f (ii + 1) (gPut x (mCas x.S 0 0 0 hh (hHead (hSlot n) (IntKind.u64.wrap (hTag hh + 1)))) (rCas x.R 0 0 0 hh (hHead (hSlot n) (IntKind.u64.wrap (hTag hh + 1)))) j (FO.mk 4 hh (hSlot n) n (hSlot hh)))).n → rowV (CM.mk 8 fam0 [(8, Src.nm 8), (9, Src.nm 1022934564967544334379121780258624735067700639388457746713528552530041811376460798401021903851845049109652088789862522190380392670589185329165164872673), (900, Src.nm 900), (901, Src.nm 901)]) fpF.sh 0 (lrow fam0 2 (fpT m f ii x).M j i) (lrow fam0 2 (fpT m f (ii + 1) (gPut x (mCas x.S 0 0 0 hh (hHead (hSlot n) (IntKind.u64.wrap (hTag hh + 1)))) (rCas x.R 0 0 0 hh (hHead (hSlot n) (IntKind.u64.wrap (hTag hh + 1)))) j (FO.mk 4 hh (hSlot n) n (hSlot hh)))).M j i),
 (0 : Nat) = 0,
 (0 : Nat) = 0,
 (0 : Nat) = 0,
 (0 : Nat) = 0,
 true = true,
 (1 : Nat) ≤ (1 : Nat),
 tabF tab = tabF tab ∧ plainSh (List.map kindOfV tab) = true ∨ ∀ (i : Nat), i < 1 → rowOb (List.map kindOfV tab) 0 (tabF tab i) (tabF tab i),
 true = true,
 m ≤ m,
 f = f ∧ plainSh asSh = true ∨ ∀ (i : Nat), i < m → rowOb asSh 0 (f i) (f i),
 (MS.mk (casM x.S.M 0 0 0 (FO.mk 3 hh nx n sl).h (hHead (hSlot (FO.mk 3 hh nx n sl).n) (IntKind.u64.wrap (hTag (FO.mk 3 hh nx n sl).h + 1)))) (IntKind.i64.wrap (x.S.st + 1)) (LS.mk 3 0 0 0 (mget x.S.M (key 0 0 0)) (casI x.S.M 0 0 0 (FO.mk 3 hh nx n sl).h (hHead (hSlot (FO.mk 3 hh nx n sl).n) (IntKind.u64.wrap (hTag (FO.mk 3 hh nx n sl).h + 1)))) (casD x.S.M 0 0 0 (FO.mk 3 hh nx n sl).h))).st = (gPut x (mCas x.S 0 0 0 hh (hHead (hSlot n) (IntKind.u64.wrap (hTag hh + 1)))) (rCas x.R 0 0 0 hh (hHead (hSlot n) (IntKind.u64.wrap (hTag hh + 1)))) j (FO.mk 4 hh (hSlot n) n (hSlot hh))).S.st,
 (3 : Int) = 3,
 (0 : Int) = 0,
 (0 : Int) = 0,
 (0 : Int) = 0,
 (MS.mk (casM x.S.M 0 0 0 (FO.mk 3 hh nx n sl).h (hHead (hSlot (FO.mk 3 hh nx n sl).n) (IntKind.u64.wrap (hTag (FO.mk 3 hh nx n sl).h + 1)))) (IntKind.i64.wrap (x.S.st + 1)) (LS.mk 3 0 0 0 (mget x.S.M (key 0 0 0)) (casI x.S.M 0 0 0 (FO.mk 3 hh nx n sl).h (hHead (hSlot (FO.mk 3 hh nx n sl).n) (IntKind.u64.wrap (hTag (FO.mk 3 hh nx n sl).h + 1)))) (casD x.S.M 0 0 0 (FO.mk 3 hh nx n sl).h))).L.w = (gPut x (mCas x.S 0 0 0 hh (hHead (hSlot n) (IntKind.u64.wrap (hTag hh + 1)))) (rCas x.R 0 0 0 hh (hHead (hSlot n) (IntKind.u64.wrap (hTag hh + 1)))) j (FO.mk 4 hh (hSlot n) n (hSlot hh))).S.L.w,
 (MS.mk (casM x.S.M 0 0 0 (FO.mk 3 hh nx n sl).h (hHead (hSlot (FO.mk 3 hh nx n sl).n) (IntKind.u64.wrap (hTag (FO.mk 3 hh nx n sl).h + 1)))) (IntKind.i64.wrap (x.S.st + 1)) (LS.mk 3 0 0 0 (mget x.S.M (key 0 0 0)) (casI x.S.M 0 0 0 (FO.mk 3 hh nx n sl).h (hHead (hSlot (FO.mk 3 hh nx n sl).n) (IntKind.u64.wrap (hTag (FO.mk 3 hh nx n sl).h + 1)))) (casD x.S.M 0 0 0 (FO.mk 3 hh nx n sl).h))).L.i = (gPut x (mCas x.S 0 0 0 hh (hHead (hSlot n) (IntKind.u64.wrap (hTag hh + 1)))) (rCas x.R 0 0 0 hh (hHead (hSlot n) (IntKind.u64.wrap (hTag hh + 1)))) j (FO.mk 4 hh (hSlot n) n (hSlot hh))).S.L.i,
 (MS.mk (casM x.S.M 0 0 0 (FO.mk 3 hh nx n sl).h (hHead (hSlot (FO.mk 3 hh nx n sl).n) (IntKind.u64.wrap (hTag (FO.mk 3 hh nx n sl).h + 1)))) (IntKind.i64.wrap (x.S.st + 1)) (LS.mk 3 0 0 0 (mget x.S.M (key 0 0 0)) (casI x.S.M 0 0 0 (FO.mk 3 hh nx n sl).h (hHead (hSlot (FO.mk 3 hh nx n sl).n) (IntKind.u64.wrap (hTag (FO.mk 3 hh nx n sl).h + 1)))) (casD x.S.M 0 0 0 (FO.mk 3 hh nx n sl).h))).L.d = (gPut x (mCas x.S 0 0 0 hh (hHead (hSlot n) (IntKind.u64.wrap (hTag hh + 1)))) (rCas x.R 0 0 0 hh (hHead (hSlot n) (IntKind.u64.wrap (hTag hh + 1)))) j (FO.mk 4 hh (hSlot n) n (hSlot hh))).S.L.d,
 ∀ (k : List Int), (MS.mk (casM x.S.M 0 0 0 (FO.mk 3 hh nx n sl).h (hHead (hSlot (FO.mk 3 hh nx n sl).n) (IntKind.u64.wrap (hTag (FO.mk 3 hh nx n sl).h + 1)))) (IntKind.i64.wrap (x.S.st + 1)) (LS.mk 3 0 0 0 (mget x.S.M (key 0 0 0)) (casI x.S.M 0 0 0 (FO.mk 3 hh nx n sl).h (hHead (hSlot (FO.mk 3 hh nx n sl).n) (IntKind.u64.wrap (hTag (FO.mk 3 hh nx n sl).h + 1)))) (casD x.S.M 0 0 0 (FO.mk 3 hh nx n sl).h))).M k = (gPut x (mCas x.S 0 0 0 hh (hHead (hSlot n) (IntKind.u64.wrap (hTag hh + 1)))) (rCas x.R 0 0 0 hh (hHead (hSlot n) (IntKind.u64.wrap (hTag hh + 1)))) j (FO.mk 4 hh (hSlot n) n (hSlot hh))).S.M k,
 (0 : Nat) = 0,
 (dCasM (dOf x.R.D.n (wdF x.R.D.W)) 0 0 0 (FO.mk 3 hh nx n sl).h (hHead (hSlot (FO.mk 3 hh nx n sl).n) (IntKind.u64.wrap (hTag (FO.mk 3 hh nx n sl).h + 1)))).n = (gPut x (mCas x.S 0 0 0 hh (hHead (hSlot n) (IntKind.u64.wrap (hTag hh + 1)))) (rCas x.R 0 0 0 hh (hHead (hSlot n) (IntKind.u64.wrap (hTag hh + 1)))) j (FO.mk 4 hh (hSlot n) n (hSlot hh))).R.D.n,
 (none : Option Nat) = none,
 IntKind.i64.wrap (x.R.st + 1) = (gPut x (mCas x.S 0 0 0 hh (hHead (hSlot n) (IntKind.u64.wrap (hTag hh + 1)))) (rCas x.R 0 0 0 hh (hHead (hSlot n) (IntKind.u64.wrap (hTag hh + 1)))) j (FO.mk 4 hh (hSlot n) n (hSlot hh))).R.st,
 (3 : Int) = 3,
 (0 : Int) = 0,
 (0 : Int) = 0,
 (0 : Int) = 0,
 (LS.mk 3 0 0 0 (dWord (dOf x.R.D.n (wdF x.R.D.W)) 0 0 0) (dWord (dCasM (dOf x.R.D.n (wdF x.R.D.W)) 0 0 0 (FO.mk 3 hh nx n sl).h (hHead (hSlot (FO.mk 3 hh nx n sl).n) (IntKind.u64.wrap (hTag (FO.mk 3 hh nx n sl).h + 1)))) 0 0 0) (dCasD (dOf x.R.D.n (wdF x.R.D.W)) 0 0 0 (FO.mk 3 hh nx n sl).h)).w = (gPut x (mCas x.S 0 0 0 hh (hHead (hSlot n) (IntKind.u64.wrap (hTag hh + 1)))) (rCas x.R 0 0 0 hh (hHead (hSlot n) (IntKind.u64.wrap (hTag hh + 1)))) j (FO.mk 4 hh (hSlot n) n (hSlot hh))).R.L.w,
 (LS.mk 3 0 0 0 (dWord (dOf x.R.D.n (wdF x.R.D.W)) 0 0 0) (dWord (dCasM (dOf x.R.D.n (wdF x.R.D.W)) 0 0 0 (FO.mk 3 hh nx n sl).h (hHead (hSlot (FO.mk 3 hh nx n sl).n) (IntKind.u64.wrap (hTag (FO.mk 3 hh nx n sl).h + 1)))) 0 0 0) (dCasD (dOf x.R.D.n (wdF x.R.D.W)) 0 0 0 (FO.mk 3 hh nx n sl).h)).i = (gPut x (mCas x.S 0 0 0 hh (hHead (hSlot n) (IntKind.u64.wrap (hTag hh + 1)))) (rCas x.R 0 0 0 hh (hHead (hSlot n) (IntKind.u64.wrap (hTag hh + 1)))) j (FO.mk 4 hh (hSlot n) n (hSlot hh))).R.L.i,
 (LS.mk 3 0 0 0 (dWord (dOf x.R.D.n (wdF x.R.D.W)) 0 0 0) (dWord (dCasM (dOf x.R.D.n (wdF x.R.D.W)) 0 0 0 (FO.mk 3 hh nx n sl).h (hHead (hSlot (FO.mk 3 hh nx n sl).n) (IntKind.u64.wrap (hTag (FO.mk 3 hh nx n sl).h + 1)))) 0 0 0) (dCasD (dOf x.R.D.n (wdF x.R.D.W)) 0 0 0 (FO.mk 3 hh nx n sl).h)).d = (gPut x (mCas x.S 0 0 0 hh (hHead (hSlot n) (IntKind.u64.wrap (hTag hh + 1)))) (rCas x.R 0 0 0 hh (hHead (hSlot n) (IntKind.u64.wrap (hTag hh + 1)))) j (FO.mk 4 hh (hSlot n) n (hSlot hh))).R.L.d,
 false = false,
 (gPut x (mCas x.S 0 0 0 hh (hHead (hSlot n) (IntKind.u64.wrap (hTag hh + 1)))) (rCas x.R 0 0 0 hh (hHead (hSlot n) (IntKind.u64.wrap (hTag hh + 1)))) j (FO.mk 4 hh (hSlot n) n (hSlot hh))).R.D.n ≤ (dCasM (dOf x.R.D.n (wdF x.R.D.W)) 0 0 0 (FO.mk 3 hh nx n sl).h (hHead (hSlot (FO.mk 3 hh nx n sl).n) (IntKind.u64.wrap (hTag (FO.mk 3 hh nx n sl).h + 1)))).n,
 wdF (gPut x (mCas x.S 0 0 0 hh (hHead (hSlot n) (IntKind.u64.wrap (hTag hh + 1)))) (rCas x.R 0 0 0 hh (hHead (hSlot n) (IntKind.u64.wrap (hTag hh + 1)))) j (FO.mk 4 hh (hSlot n) n (hSlot hh))).R.D.W = wdF (dCasM (dOf x.R.D.n (wdF x.R.D.W)) 0 0 0 (FO.mk 3 hh nx n sl).h (hHead (hSlot (FO.mk 3 hh nx n sl).n) (IntKind.u64.wrap (hTag (FO.mk 3 hh nx n sl).h + 1)))).W ∧ plainSh wSh = true ∨ ∀ (i : Nat), i < (gPut x (mCas x.S 0 0 0 hh (hHead (hSlot n) (IntKind.u64.wrap (hTag hh + 1)))) (rCas x.R 0 0 0 hh (hHead (hSlot n) (IntKind.u64.wrap (hTag hh + 1)))) j (FO.mk 4 hh (hSlot n) n (hSlot hh))).R.D.n → rowOb wSh 0 (wdF (dCasM (dOf x.R.D.n (wdF x.R.D.W)) 0 0 0 (FO.mk 3 hh nx n sl).h (hHead (hSlot (FO.mk 3 hh nx n sl).n) (IntKind.u64.wrap (hTag (FO.mk 3 hh nx n sl).h + 1)))).W i) (wdF (gPut x (mCas x.S 0 0 0 hh (hHead (hSlot n) (IntKind.u64.wrap (hTag hh + 1)))) (rCas x.R 0 0 0 hh (hHead (hSlot n) (IntKind.u64.wrap (hTag hh + 1)))) j (FO.mk 4 hh (hSlot n) n (hSlot hh))).R.D.W i),
 Both (MS.mk (casM x.S.M 0 0 0 (FO.mk 3 hh nx n sl).h (hHead (hSlot (FO.mk 3 hh nx n sl).n) (IntKind.u64.wrap (hTag (FO.mk 3 hh nx n sl).h + 1)))) (IntKind.i64.wrap (x.S.st + 1)) (LS.mk 3 0 0 0 (mget x.S.M (key 0 0 0)) (casI x.S.M 0 0 0 (FO.mk 3 hh nx n sl).h (hHead (hSlot (FO.mk 3 hh nx n sl).n) (IntKind.u64.wrap (hTag (FO.mk 3 hh nx n sl).h + 1)))) (casD x.S.M 0 0 0 (FO.mk 3 hh nx n sl).h))) (mkR (dCasM (dOf x.R.D.n (wdF x.R.D.W)) 0 0 0 (FO.mk 3 hh nx n sl).h (hHead (hSlot (FO.mk 3 hh nx n sl).n) (IntKind.u64.wrap (hTag (FO.mk 3 hh nx n sl).h + 1)))).n (wdF (dCasM (dOf x.R.D.n (wdF x.R.D.W)) 0 0 0 (FO.mk 3 hh nx n sl).h (hHead (hSlot (FO.mk 3 hh nx n sl).n) (IntKind.u64.wrap (hTag (FO.mk 3 hh nx n sl).h + 1)))).W) (IntKind.i64.wrap (x.R.st + 1)) (LS.mk 3 0 0 0 (dWord (dOf x.R.D.n (wdF x.R.D.W)) 0 0 0) (dWord (dCasM (dOf x.R.D.n (wdF x.R.D.W)) 0 0 0 (FO.mk 3 hh nx n sl).h (hHead (hSlot (FO.mk 3 hh nx n sl).n) (IntKind.u64.wrap (hTag (FO.mk 3 hh nx n sl).h + 1)))) 0 0 0) (dCasD (dOf x.R.D.n (wdF x.R.D.W)) 0 0 0 (FO.mk 3 hh nx n sl).h))),
 (hSlot (FO.mk 3 hh nx n sl).h != hSlot (FO.mk 3 hh nx n sl).h) = false,
 TabIs tab (tabF tab),
 0 ≤ (FO.mk 3 hh nx n sl).h,
 (FO.mk 3 hh nx n sl).h < 18446744073709551616,
 (!casD x.S.M 0 0 0 (FO.mk 3 hh nx n sl).h) = false,
 (0 : Int) ≤ (0 : Int),
 TabIs tab (tabF tab),
 0 ≤ IntKind.u64.wrap (hTag (FO.mk 3 hh nx n sl).h + 1),
 IntKind.u64.wrap (hTag (FO.mk 3 hh nx n sl).h + 1) < 18446744073709551616,
 TabIs tab (tabF tab),
 0 ≤ (FO.mk 3 hh nx n sl).h,
 (FO.mk 3 hh nx n sl).h < 18446744073709551616,
 dCasD (dOf x.R.D.n (wdF x.R.D.W)) 0 0 0 (FO.mk 3 hh nx n sl).h = true,
 x.R.D.n ≤ x.R.D.n,
 x.R.D.n ≤ 100000,
 (0 : Int) ≤ (0 : Int),
 0 ≤ IntKind.u64.wrap (hTag (FO.mk 3 hh nx n sl).h + 1),
 IntKind.u64.wrap (hTag (FO.mk 3 hh nx n sl).h + 1) < 18446744073709551616,
 0 ≤ (FO.mk 3 hh nx n sl).n,
 (FO.mk 3 hh nx n sl).n < 18446744073709551616,
 0 ≤ (FO.mk 3 hh nx n sl).h,
 (FO.mk 3 hh nx n sl).h < 18446744073709551616,
 lrow fam0 2 (fpT m f ii x).M j (0 + ((IntKind.u64.wrap (avInt (f (0 + ii) 1))).tmod (IntKind.u64.wrap (Int.ofNat x.n))).toNat) 2 = AV.ptr 901 0 0,
 lrow fam0 2 (fpT m f ii x).M j (0 + ((IntKind.u64.wrap (avInt (f (0 + ii) 1))).tmod (IntKind.u64.wrap (Int.ofNat x.n))).toNat) 1 = AV.nilp,
 lrow fam0 2 (fpT m f ii x).M j (0 + ((IntKind.u64.wrap (avInt (f (0 + ii) 1))).tmod (IntKind.u64.wrap (Int.ofNat x.n))).toNat) 0 = AV.ptr 900 0 0,
 (0 + ((IntKind.u64.wrap (avInt (f (0 + ii) 1))).tmod (IntKind.u64.wrap (Int.ofNat x.n))).toNat).blt (fpT m f ii x).n = true,
 (((IntKind.u64.wrap (avInt (f (0 + ii) 1))).tmod (IntKind.u64.wrap (Int.ofNat x.n))).toNat.blt x.n && decide (0 ≤ (IntKind.u64.wrap (avInt (f (0 + ii) 1))).tmod (IntKind.u64.wrap (Int.ofNat x.n)))) = true,
 decide (IntKind.u64.wrap (Int.ofNat x.n) ≠ 0) = true,
 (Int.ofNat x.n == 0) = false,
 ((avInt (f (0 + ii) 0)).tmod 6 == 2) = false,
 ((avInt (f (0 + ii) 0)).tmod 6 == 1) = false,
 ((avInt (f (0 + ii) 0)).tmod 6 == 0) = false,
 (0 + ii).blt m = true,
 (ii.blt m && decide (0 ≤ Int.ofNat ii)) = true,
 decide (Int.ofNat ii < Int.ofNat m) = true]) := by kernel_rfl
theorem f3b_1 (m : Nat) (f : Nat → Nat → AV) (q : Nat) (h : Nat → Nat → AV) (ii : Nat) (x : GX FO) (j : Nat) (hh nx n sl : Int) : roundB Efp 3000 fpL (h0F fpF (fpU m f q h)) [(8, Src.nm 8), (9, Src.nm 1022934564967544334379121780258624735067700639388457746713528552530041811376460798401021903851845049109652088789862522190380392670589185329165164872673), (900, Src.nm 900), (901, Src.nm 901)] (locSt fpF (fpT m f ii x) true (fpMb (FO.mk 3 hh nx n sl)) j []) [Hint.b true, Hint.b false, Hint.b false, Hint.b false, Hint.b false, Hint.a (AV.ptr 900 0 0), Hint.a AV.nilp, Hint.a (AV.ptr 901 0 0), Hint.node [], Hint.b false, Hint.node [(8, [Hint.node [], Hint.b true])]] (locSt fpF (fpT m f (ii + 1) (gPut x (mCas x.S 0 0 0 hh (hHead (hSlot n) (IntKind.u64.wrap (hTag hh + 1)))) (rCas x.R 0 0 0 hh (hHead (hSlot n) (IntKind.u64.wrap (hTag hh + 1)))) j (FO.mk 1 hh (hSlot n) n sl))) true (fpMb (FO.mk 1 hh (hSlot n) n sl)) j []) =
 some (Ex.norm, [(0 : Nat) = 0,
 m = m,
 (none : Option Nat) = none,
 (0 : Nat) = 0,
 (0 : Nat) = 0,
 (0 : Nat) = 0,
 x.n = (gPut x (mCas x.S 0 0 0 hh (hHead (hSlot n) (IntKind.u64.wrap (hTag hh + 1)))) (rCas x.R 0 0 0 hh (hHead (hSlot n) (IntKind.u64.wrap (hTag hh + 1)))) j (FO.mk 1 hh (hSlot n) n sl)).n,
 (none : Option Nat) = none,
 IntKind.i64.wrap (Int.ofNat ii + 1) = Int.ofNat (ii + 1),
 (FO.mk 3 hh nx n sl).h = (FO.mk 1 hh (hSlot n) n sl).h,
 hSlot (FO.mk 3 hh nx n sl).n = (FO.mk 1 hh (hSlot n) n sl).nx,
 (FO.mk 3 hh nx n sl).h = (FO.mk 1 hh (hSlot n) n sl).h,
 (FO.mk 3 hh nx n sl).n = (FO.mk 1 hh (hSlot n) n sl).n,
 false = false,
 (fpT m f (ii + 1) (gPut x (mCas x.S 0 0 0 hh (hHead (hSlot n) (IntKind.u64.wrap (hTag hh + 1)))) (rCas x.R 0 0 0 hh (hHead (hSlot n) (IntKind.u64.wrap (hTag hh + 1)))) j (FO.mk 1 hh (hSlot n) n sl))).n ≤ (fpT m f ii x).n,
 ∀ (i : Nat), i < (fpT m f (ii + 1) (gPut x (mCas x.S 0 0 0 hh (hHead (hSlot n) (IntKind.u64.wrap (hTag hh + 1)))) (rCas x.R 0 0 0 hh (hHead (hSlot n) (IntKind.u64.wrap (hTag hh + 1)))) j (FO.mk 1 hh (hSlot n) n sl))).n → rowV (CM.mk 8 fam0 [(8, Src.nm 8), (9, Src.nm 1022934564967544334379121780258624735067700639388457746713528552530041811376460798401021903851845049109652088789862522190380392670589185329165164872673), (900, Src.nm 900), (901, Src.nm 901)]) fpF.sh 0 (lrow fam0 2 (fpT m f ii x).M j i) (lrow fam0 2 (fpT m f (ii + 1) (gPut x (mCas x.S 0 0 0 hh (hHead (hSlot n) (IntKind.u64.wrap (hTag hh + 1)))) (rCas x.R 0 0 0 hh (hHead (hSlot n) (IntKind.u64.wrap (hTag hh + 1)))) j (FO.mk 1 hh (hSlot n) n sl))).M j i),
 (0 : Nat) = 0,
 (0 : Nat) = 0,
 (0 : Nat) = 0,
 (0 : Nat) = 0,
 true = true,
 (1 : Nat) ≤ (1 : Nat),
 tabF tab = tabF tab ∧ plainSh (List.map kindOfV tab) = true ∨ ∀ (i : Nat), i < 1 → rowOb (List.map kindOfV tab) 0 (tabF tab i) (tabF tab i),
 true = true,
 m ≤ m,
 f = f ∧ plainSh asSh = true ∨ ∀ (i : Nat), i < m → rowOb asSh 0 (f i) (f i),
 (MS.mk (casM x.S.M 0 0 0 (FO.mk 3 hh nx n sl).h (hHead (hSlot (FO.mk 3 hh nx n sl).n) (IntKind.u64.wrap (hTag (FO.mk 3 hh nx n sl).h + 1)))) (IntKind.i64.wrap (x.S.st + 1)) (LS.mk 3 0 0 0 (mget x.S.M (key 0 0 0)) (casI x.S.M 0 0 0 (FO.mk 3 hh nx n sl).h (hHead (hSlot (FO.mk 3 hh nx n sl).n) (IntKind.u64.wrap (hTag (FO.mk 3 hh nx n sl).h + 1)))) (casD x.S.M 0 0 0 (FO.mk 3 hh nx n sl).h))).st = (gPut x (mCas x.S 0 0 0 hh (hHead (hSlot n) (IntKind.u64.wrap (hTag hh + 1)))) (rCas x.R 0 0 0 hh (hHead (hSlot n) (IntKind.u64.wrap (hTag hh + 1)))) j (FO.mk 1 hh (hSlot n) n sl)).S.st,
 (3 : Int) = 3,
 (0 : Int) = 0,
 (0 : Int) = 0,
 (0 : Int) = 0,
 (MS.mk (casM x.S.M 0 0 0 (FO.mk 3 hh nx n sl).h (hHead (hSlot (FO.mk 3 hh nx n sl).n) (IntKind.u64.wrap (hTag (FO.mk 3 hh nx n sl).h + 1)))) (IntKind.i64.wrap (x.S.st + 1)) (LS.mk 3 0 0 0 (mget x.S.M (key 0 0 0)) (casI x.S.M 0 0 0 (FO.mk 3 hh nx n sl).h (hHead (hSlot (FO.mk 3 hh nx n sl).n) (IntKind.u64.wrap (hTag (FO.mk 3 hh nx n sl).h + 1)))) (casD x.S.M 0 0 0 (FO.mk 3 hh nx n sl).h))).L.w = (gPut x (mCas x.S 0 0 0 hh (hHead (hSlot n) (IntKind.u64.wrap (hTag hh + 1)))) (rCas x.R 0 0 0 hh (hHead (hSlot n) (IntKind.u64.wrap (hTag hh + 1)))) j (FO.mk 1 hh (hSlot n) n sl)).S.L.w,
 (MS.mk (casM x.S.M 0 0 0 (FO.mk 3 hh nx n sl).h (hHead (hSlot (FO.mk 3 hh nx n sl).n) (IntKind.u64.wrap (hTag (FO.mk 3 hh nx n sl).h + 1)))) (IntKind.i64.wrap (x.S.st + 1)) (LS.mk 3 0 0 0 (mget x.S.M (key 0 0 0)) (casI x.S.M 0 0 0 (FO.mk 3 hh nx n sl).h (hHead (hSlot (FO.mk 3 hh nx n sl).n) (IntKind.u64.wrap (hTag (FO.mk 3 hh nx n sl).h + 1)))) (casD x.S.M 0 0 0 (FO.mk 3 hh nx n sl).h))).L.i = (gPut x (mCas x.S 0 0 0 hh (hHead (hSlot n) (IntKind.u64.wrap (hTag hh + 1)))) (rCas x.R 0 0 0 hh (hHead (hSlot n) (IntKind.u64.wrap (hTag hh + 1)))) j (FO.mk 1 hh (hSlot n) n sl)).S.L.i,
 (MS.mk (casM x.S.M 0 0 0 (FO.mk 3 hh nx n sl).h (hHead (hSlot (FO.mk 3 hh nx n sl).n) (IntKind.u64.wrap (hTag (FO.mk 3 hh nx n sl).h + 1)))) (IntKind.i64.wrap (x.S.st + 1)) (LS.mk 3 0 0 0 (mget x.S.M (key 0 0 0)) (casI x.S.M 0 0 0 (FO.mk 3 hh nx n sl).h (hHead (hSlot (FO.mk 3 hh nx n sl).n) (IntKind.u64.wrap (hTag (FO.mk 3 hh nx n sl).h + 1)))) (casD x.S.M 0 0 0 (FO.mk 3 hh nx n sl).h))).L.d = (gPut x (mCas x.S 0 0 0 hh (hHead (hSlot n) (IntKind.u64.wrap (hTag hh + 1)))) (rCas x.R 0 0 0 hh (hHead (hSlot n) (IntKind.u64.wrap (hTag hh + 1)))) j (FO.mk 1 hh (hSlot n) n sl)).S.L.d,
 ∀ (k : List Int), (MS.mk (casM x.S.M 0 0 0 (FO.mk 3 hh nx n sl).h (hHead (hSlot (FO.mk 3 hh nx n sl).n) (IntKind.u64.wrap (hTag (FO.mk 3 hh nx n sl).h + 1)))) (IntKind.i64.wrap (x.S.st + 1)) (LS.mk 3 0 0 0 (mget x.S.M (key 0 0 0)) (casI x.S.M 0 0 0 (FO.mk 3 hh nx n sl).h (hHead (hSlot (FO.mk 3 hh nx n sl).n) (IntKind.u64.wrap (hTag (FO.mk 3 hh nx n sl).h + 1)))) (casD x.S.M 0 0 0 (FO.mk 3 hh nx n sl).h))).M k = (gPut x (mCas x.S 0 0 0 hh (hHead (hSlot n) (IntKind.u64.wrap (hTag hh + 1)))) (rCas x.R 0 0 0 hh (hHead (hSlot n) (IntKind.u64.wrap (hTag hh + 1)))) j (FO.mk 1 hh (hSlot n) n sl)).S.M k,
 (0 : Nat) = 0,
 (dCasM (dOf x.R.D.n (wdF x.R.D.W)) 0 0 0 (FO.mk 3 hh nx n sl).h (hHead (hSlot (FO.mk 3 hh nx n sl).n) (IntKind.u64.wrap (hTag (FO.mk 3 hh nx n sl).h + 1)))).n = (gPut x (mCas x.S 0 0 0 hh (hHead (hSlot n) (IntKind.u64.wrap (hTag hh + 1)))) (rCas x.R 0 0 0 hh (hHead (hSlot n) (IntKind.u64.wrap (hTag hh + 1)))) j (FO.mk 1 hh (hSlot n) n sl)).R.D.n,
 (none : Option Nat) = none,
 IntKind.i64.wrap (x.R.st + 1) = (gPut x (mCas x.S 0 0 0 hh (hHead (hSlot n) (IntKind.u64.wrap (hTag hh + 1)))) (rCas x.R 0 0 0 hh (hHead (hSlot n) (IntKind.u64.wrap (hTag hh + 1)))) j (FO.mk 1 hh (hSlot n) n sl)).R.st,
 (3 : Int) = 3,
 (0 : Int) = 0,
 (0 : Int) = 0,
 (0 : Int) = 0,
 (LS.mk 3 0 0 0 (dWord (dOf x.R.D.n (wdF x.R.D.W)) 0 0 0) (dWord (dCasM (dOf x.R.D.n (wdF x.R.D.W)) 0 0 0 (FO.mk 3 hh nx n sl).h (hHead (hSlot (FO.mk 3 hh nx n sl).n) (IntKind.u64.wrap (hTag (FO.mk 3 hh nx n sl).h + 1)))) 0 0 0) (dCasD (dOf x.R.D.n (wdF x.R.D.W)) 0 0 0 (FO.mk 3 hh nx n sl).h)).w = (gPut x (mCas x.S 0 0 0 hh (hHead (hSlot n) (IntKind.u64.wrap (hTag hh + 1)))) (rCas x.R 0 0 0 hh (hHead (hSlot n) (IntKind.u64.wrap (hTag hh + 1)))) j (FO.mk 1 hh (hSlot n) n sl)).R.L.w,
 (LS.mk 3 0 0 0 (dWord (dOf x.R.D.n (wdF x.R.D.W)) 0 0 0) (dWord (dCasM (dOf x.R.D.n (wdF x.R.D.W)) 0 0 0 (FO.mk 3 hh nx n sl).h (hHead (hSlot (FO.mk 3 hh nx n sl).n) (IntKind.u64.wrap (hTag (FO.mk 3 hh nx n sl).h + 1)))) 0 0 0) (dCasD (dOf x.R.D.n (wdF x.R.D.W)) 0 0 0 (FO.mk 3 hh nx n sl).h)).i = (gPut x (mCas x.S 0 0 0 hh (hHead (hSlot n) (IntKind.u64.wrap (hTag hh + 1)))) (rCas x.R 0 0 0 hh (hHead (hSlot n) (IntKind.u64.wrap (hTag hh + 1)))) j (FO.mk 1 hh (hSlot n) n sl)).R.L.i,
 (LS.mk 3 0 0 0 (dWord (dOf x.R.D.n (wdF x.R.D.W)) 0 0 0) (dWord (dCasM (dOf x.R.D.n (wdF x.R.D.W)) 0 0 0 (FO.mk 3 hh nx n sl).h (hHead (hSlot (FO.mk 3 hh nx n sl).n) (IntKind.u64.wrap (hTag (FO.mk 3 hh nx n sl).h + 1)))) 0 0 0) (dCasD (dOf x.R.D.n (wdF x.R.D.W)) 0 0 0 (FO.mk 3 hh nx n sl).h)).d = (gPut x (mCas x.S 0 0 0 hh (hHead (hSlot n) (IntKind.u64.wrap (hTag hh + 1)))) (rCas x.R 0 0 0 hh (hHead (hSlot n) (IntKind.u64.wrap (hTag hh + 1)))) j (FO.mk 1 hh (hSlot n) n sl)).R.L.d,
 false = false,
 (gPut x (mCas x.S 0 0 0 hh (hHead (hSlot n) (IntKind.u64.wrap (hTag hh + 1)))) (rCas x.R 0 0 0 hh (hHead (hSlot n) (IntKind.u64.wrap (hTag hh + 1)))) j (FO.mk 1 hh (hSlot n) n sl)).R.D.n ≤ (dCasM (dOf x.R.D.n (wdF x.R.D.W)) 0 0 0 (FO.mk 3 hh nx n sl).h (hHead (hSlot (FO.mk 3 hh nx n sl).n) (IntKind.u64.wrap (hTag (FO.mk 3 hh nx n sl).h + 1)))).n,
 wdF (gPut x (mCas x.S 0 0 0 hh (hHead (hSlot n) (IntKind.u64.wrap (hTag hh + 1)))) (rCas x.R 0 0 0 hh (hHead (hSlot n) (IntKind.u64.wrap (hTag hh + 1)))) j (FO.mk 1 hh (hSlot n) n sl)).R.D.W = wdF (dCasM (dOf x.R.D.n (wdF x.R.D.W)) 0 0 0 (FO.mk 3 hh nx n sl).h (hHead (hSlot (FO.mk 3 hh nx n sl).n) (IntKind.u64.wrap (hTag (FO.mk 3 hh nx n sl).h + 1)))).W ∧ plainSh wSh = true ∨ ∀ (i : Nat), i < (gPut x (mCas x.S 0 0 0 hh (hHead (hSlot n) (IntKind.u64.wrap (hTag hh + 1)))) (rCas x.R 0 0 0 hh (hHead (hSlot n) (IntKind.u64.wrap (hTag hh + 1)))) j (FO.mk 1 hh (hSlot n) n sl)).R.D.n → rowOb wSh 0 (wdF (dCasM (dOf x.R.D.n (wdF x.R.D.W)) 0 0 0 (FO.mk 3 hh nx n sl).h (hHead (hSlot (FO.mk 3 hh nx n sl).n) (IntKind.u64.wrap (hTag (FO.mk 3 hh nx n sl).h + 1)))).W i) (wdF (gPut x (mCas x.S 0 0 0 hh (hHead (hSlot n) (IntKind.u64.wrap (hTag hh + 1)))) (rCas x.R 0 0 0 hh (hHead (hSlot n) (IntKind.u64.wrap (hTag hh + 1)))) j (FO.mk 1 hh (hSlot n) n sl)).R.D.W i),
 Both (MS.mk (casM x.S.M 0 0 0 (FO.mk 3 hh nx n sl).h (hHead (hSlot (FO.mk 3 hh nx n sl).n) (IntKind.u64.wrap (hTag (FO.mk 3 hh nx n sl).h + 1)))) (IntKind.i64.wrap (x.S.st + 1)) (LS.mk 3 0 0 0 (mget x.S.M (key 0 0 0)) (casI x.S.M 0 0 0 (FO.mk 3 hh nx n sl).h (hHead (hSlot (FO.mk 3 hh nx n sl).n) (IntKind.u64.wrap (hTag (FO.mk 3 hh nx n sl).h + 1)))) (casD x.S.M 0 0 0 (FO.mk 3 hh nx n sl).h))) (mkR (dCasM (dOf x.R.D.n (wdF x.R.D.W)) 0 0 0 (FO.mk 3 hh nx n sl).h (hHead (hSlot (FO.mk 3 hh nx n sl).n) (IntKind.u64.wrap (hTag (FO.mk 3 hh nx n sl).h + 1)))).n (wdF (dCasM (dOf x.R.D.n (wdF x.R.D.W)) 0 0 0 (FO.mk 3 hh nx n sl).h (hHead (hSlot (FO.mk 3 hh nx n sl).n) (IntKind.u64.wrap (hTag (FO.mk 3 hh nx n sl).h + 1)))).W) (IntKind.i64.wrap (x.R.st + 1)) (LS.mk 3 0 0 0 (dWord (dOf x.R.D.n (wdF x.R.D.W)) 0 0 0) (dWord (dCasM (dOf x.R.D.n (wdF x.R.D.W)) 0 0 0 (FO.mk 3 hh nx n sl).h (hHead (hSlot (FO.mk 3 hh nx n sl).n) (IntKind.u64.wrap (hTag (FO.mk 3 hh nx n sl).h + 1)))) 0 0 0) (dCasD (dOf x.R.D.n (wdF x.R.D.W)) 0 0 0 (FO.mk 3 hh nx n sl).h))),
 (!casD x.S.M 0 0 0 (FO.mk 3 hh nx n sl).h) = true,
 (0 : Int) ≤ (0 : Int),
 TabIs tab (tabF tab),
 0 ≤ IntKind.u64.wrap (hTag (FO.mk 3 hh nx n sl).h + 1),
 IntKind.u64.wrap (hTag (FO.mk 3 hh nx n sl).h + 1) < 18446744073709551616,
 TabIs tab (tabF tab),
 0 ≤ (FO.mk 3 hh nx n sl).h,
 (FO.mk 3 hh nx n sl).h < 18446744073709551616,
 dCasD (dOf x.R.D.n (wdF x.R.D.W)) 0 0 0 (FO.mk 3 hh nx n sl).h = false,
 x.R.D.n ≤ x.R.D.n,
 x.R.D.n ≤ 100000,
 (0 : Int) ≤ (0 : Int),
 0 ≤ IntKind.u64.wrap (hTag (FO.mk 3 hh nx n sl).h + 1),
 IntKind.u64.wrap (hTag (FO.mk 3 hh nx n sl).h + 1) < 18446744073709551616,
 0 ≤ (FO.mk 3 hh nx n sl).n,
 (FO.mk 3 hh nx n sl).n < 18446744073709551616,
 0 ≤ (FO.mk 3 hh nx n sl).h,
 (FO.mk 3 hh nx n sl).h < 18446744073709551616,
 lrow fam0 2 (fpT m f ii x).M j (0 + ((IntKind.u64.wrap (avInt (f (0 + ii) 1))).tmod (IntKind.u64.wrap (Int.ofNat x.n))).toNat) 2 = AV.ptr 901 0 0,
 lrow fam0 2 (fpT m f ii x).M j (0 + ((IntKind.u64.wrap (avInt (f (0 + ii) 1))).tmod (IntKind.u64.wrap (Int.ofNat x.n))).toNat) 1 = AV.nilp,
 lrow fam0 2 (fpT m f ii x).M j (0 + ((IntKind.u64.wrap (avInt (f (0 + ii) 1))).tmod (IntKind.u64.wrap (Int.ofNat x.n))).toNat) 0 = AV.ptr 900 0 0,
 (0 + ((IntKind.u64.wrap (avInt (f (0 + ii) 1))).tmod (IntKind.u64.wrap (Int.ofNat x.n))).toNat).blt (fpT m f ii x).n = true,
 (((IntKind.u64.wrap (avInt (f (0 + ii) 1))).tmod (IntKind.u64.wrap (Int.ofNat x.n))).toNat.blt x.n && decide (0 ≤ (IntKind.u64.wrap (avInt (f (0 + ii) 1))).tmod (IntKind.u64.wrap (Int.ofNat x.n)))) = true,
 decide (IntKind.u64.wrap (Int.ofNat x.n) ≠ 0) = true,
 (Int.ofNat x.n == 0) = false,
 ((avInt (f (0 + ii) 0)).tmod 6 == 2) = false,
 ((avInt (f (0 + ii) 0)).tmod 6 == 1) = false,
 ((avInt (f (0 + ii) 0)).tmod 6 == 0) = false,
 (0 + ii).blt m = true,
 (ii.blt m && decide (0 ≤ Int.ofNat ii)) = true,
 decide (Int.ofNat ii < Int.ofNat m) = true]) := by kernel_rfl
theorem f4_1 (m : Nat) (f : Nat → Nat → AV) (q : Nat) (h : Nat → Nat → AV) (ii : Nat) (x : GX FO) (j : Nat) (hh nx n sl : Int) : roundB Efp 3000 fpL (h0F fpF (fpU m f q h)) [(8, Src.nm 8), (9, Src.nm 9), (900, Src.nm 900), (901, Src.nm 901)] (locSt fpF (fpT m f ii x) true (fpMb (FO.mk 4 hh nx n sl)) j []) [Hint.b true, Hint.b false, Hint.b false, Hint.b false, Hint.b false, Hint.a (AV.ptr 900 0 0), Hint.a AV.nilp, Hint.a (AV.ptr 901 0 0), Hint.node [], Hint.b false] (locSt fpF (fpT m f (ii + 1) (gPut x x.S x.R j (FO.mk 4 hh nx n sl))) true (fpMb (FO.mk 4 hh nx n sl)) j []) =
 some (Ex.norm, [(0 : Nat) = 0,
 m = m,
 (none : Option Nat) = none,
 (0 : Nat) = 0,
 (0 : Nat) = 0,
 (0 : Nat) = 0,
 x.n = (gPut x x.S x.R j (FO.mk 4 hh nx n sl)).n,
 (none : Option Nat) = none,
 IntKind.i64.wrap (Int.ofNat ii + 1) = Int.ofNat (ii + 1),
 (FO.mk 4 hh nx n sl).h = (FO.mk 4 hh nx n sl).h,
 (FO.mk 4 hh nx n sl).nx = (FO.mk 4 hh nx n sl).nx,
 (FO.mk 4 hh nx n sl).sl = (FO.mk 4 hh nx n sl).sl,
 (FO.mk 4 hh nx n sl).sl = (FO.mk 4 hh nx n sl).sl,
 (FO.mk 4 hh nx n sl).h = (FO.mk 4 hh nx n sl).h,
 (FO.mk 4 hh nx n sl).n = (FO.mk 4 hh nx n sl).n,
 false = false,
 (fpT m f (ii + 1) (gPut x x.S x.R j (FO.mk 4 hh nx n sl))).n ≤ (fpT m f ii x).n,
 ∀ (i : Nat), i < (fpT m f (ii + 1) (gPut x x.S x.R j (FO.mk 4 hh nx n sl))).n → rowV (CM.mk 8 fam0 [(8, Src.nm 8), (9, Src.nm 9), (900, Src.nm 900), (901, Src.nm 901)]) fpF.sh 0 (lrow fam0 2 (fpT m f ii x).M j i) (lrow fam0 2 (fpT m f (ii + 1) (gPut x x.S x.R j (FO.mk 4 hh nx n sl))).M j i),
 (0 : Nat) = 0,
 (0 : Nat) = 0,
 (0 : Nat) = 0,
 (0 : Nat) = 0,
 true = true,
 (1 : Nat) ≤ (1 : Nat),
 tabF tab = tabF tab ∧ plainSh (List.map kindOfV tab) = true ∨ ∀ (i : Nat), i < 1 → rowOb (List.map kindOfV tab) 0 (tabF tab i) (tabF tab i),
 true = true,
 m ≤ m,
 f = f ∧ plainSh asSh = true ∨ ∀ (i : Nat), i < m → rowOb asSh 0 (f i) (f i),
 x.S.st = (gPut x x.S x.R j (FO.mk 4 hh nx n sl)).S.st,
 x.S.L.c = (gPut x x.S x.R j (FO.mk 4 hh nx n sl)).S.L.c,
 x.S.L.k = (gPut x x.S x.R j (FO.mk 4 hh nx n sl)).S.L.k,
 x.S.L.a = (gPut x x.S x.R j (FO.mk 4 hh nx n sl)).S.L.a,
 x.S.L.f = (gPut x x.S x.R j (FO.mk 4 hh nx n sl)).S.L.f,
 x.S.L.w = (gPut x x.S x.R j (FO.mk 4 hh nx n sl)).S.L.w,
 x.S.L.i = (gPut x x.S x.R j (FO.mk 4 hh nx n sl)).S.L.i,
 x.S.L.d = (gPut x x.S x.R j (FO.mk 4 hh nx n sl)).S.L.d,
 ∀ (k : List Int), x.S.M k = (gPut x x.S x.R j (FO.mk 4 hh nx n sl)).S.M k,
 (0 : Nat) = 0,
 x.R.D.n = (gPut x x.S x.R j (FO.mk 4 hh nx n sl)).R.D.n,
 (none : Option Nat) = none,
 x.R.st = (gPut x x.S x.R j (FO.mk 4 hh nx n sl)).R.st,
 x.R.L.c = (gPut x x.S x.R j (FO.mk 4 hh nx n sl)).R.L.c,
 x.R.L.k = (gPut x x.S x.R j (FO.mk 4 hh nx n sl)).R.L.k,
 x.R.L.a = (gPut x x.S x.R j (FO.mk 4 hh nx n sl)).R.L.a,
 x.R.L.f = (gPut x x.S x.R j (FO.mk 4 hh nx n sl)).R.L.f,
 x.R.L.w = (gPut x x.S x.R j (FO.mk 4 hh nx n sl)).R.L.w,
 x.R.L.i = (gPut x x.S x.R j (FO.mk 4 hh nx n sl)).R.L.i,
 x.R.L.d = (gPut x x.S x.R j (FO.mk 4 hh nx n sl)).R.L.d,
 false = false,
 (gPut x x.S x.R j (FO.mk 4 hh nx n sl)).R.D.n ≤ x.R.D.n,
 wdF (gPut x x.S x.R j (FO.mk 4 hh nx n sl)).R.D.W = wdF x.R.D.W ∧ plainSh wSh = true ∨ ∀ (i : Nat), i < (gPut x x.S x.R j (FO.mk 4 hh nx n sl)).R.D.n → rowOb wSh 0 (wdF x.R.D.W i) (wdF (gPut x x.S x.R j (FO.mk 4 hh nx n sl)).R.D.W i),
 Both x.S x.R,
 ((FO.mk 4 hh nx n sl).sl != (FO.mk 4 hh nx n sl).sl) = false,
 0 ≤ (FO.mk 4 hh nx n sl).h,
 (FO.mk 4 hh nx n sl).h < 18446744073709551616,
 lrow fam0 2 (fpT m f ii x).M j (0 + ((IntKind.u64.wrap (avInt (f (0 + ii) 1))).tmod (IntKind.u64.wrap (Int.ofNat x.n))).toNat) 2 = AV.ptr 901 0 0,
 lrow fam0 2 (fpT m f ii x).M j (0 + ((IntKind.u64.wrap (avInt (f (0 + ii) 1))).tmod (IntKind.u64.wrap (Int.ofNat x.n))).toNat) 1 = AV.nilp,
 lrow fam0 2 (fpT m f ii x).M j (0 + ((IntKind.u64.wrap (avInt (f (0 + ii) 1))).tmod (IntKind.u64.wrap (Int.ofNat x.n))).toNat) 0 = AV.ptr 900 0 0,
 (0 + ((IntKind.u64.wrap (avInt (f (0 + ii) 1))).tmod (IntKind.u64.wrap (Int.ofNat x.n))).toNat).blt (fpT m f ii x).n = true,
 (((IntKind.u64.wrap (avInt (f (0 + ii) 1))).tmod (IntKind.u64.wrap (Int.ofNat x.n))).toNat.blt x.n && decide (0 ≤ (IntKind.u64.wrap (avInt (f (0 + ii) 1))).tmod (IntKind.u64.wrap (Int.ofNat x.n)))) = true,
 decide (IntKind.u64.wrap (Int.ofNat x.n) ≠ 0) = true,
 (Int.ofNat x.n == 0) = false,
 ((avInt (f (0 + ii) 0)).tmod 6 == 2) = false,
 ((avInt (f (0 + ii) 0)).tmod 6 == 1) = false,
 ((avInt (f (0 + ii) 0)).tmod 6 == 0) = false,
 (0 + ii).blt m = true,
 (ii.blt m && decide (0 ≤ Int.ofNat ii)) = true,
 decide (Int.ofNat ii < Int.ofNat m) = true]) := by kernel_rfl
theorem f5_1 (m : Nat) (f : Nat → Nat → AV) (q : Nat) (h : Nat → Nat → AV) (ii : Nat) (x : GX FO) (j : Nat) (hh nx n sl : Int) : roundB Efp 3000 fpL (h0F fpF (fpU m f q h)) [(8, Src.nm 8), (9, Src.nm 9), (900, Src.nm 900), (901, Src.nm 901)] (locSt fpF (fpT m f ii x) true (fpMb (FO.mk 5 hh nx n sl)) j []) [Hint.b true, Hint.b false, Hint.b false, Hint.b false, Hint.b false, Hint.a AV.nilp, Hint.a (AV.ptr 900 0 0), Hint.a (AV.ptr 901 0 0)] (locSt fpF (fpT m f (ii + 1) (gPut x x.S x.R j (FO.mk 5 hh nx n sl))) true (fpMb (FO.mk 5 hh nx n sl)) j []) =
 some (Ex.norm, [(0 : Nat) = 0,
 m = m,
 (none : Option Nat) = none,
 (0 : Nat) = 0,
 (0 : Nat) = 0,
 (0 : Nat) = 0,
 x.n = (gPut x x.S x.R j (FO.mk 5 hh nx n sl)).n,
 (none : Option Nat) = none,
 IntKind.i64.wrap (Int.ofNat ii + 1) = Int.ofNat (ii + 1),
 (FO.mk 5 hh nx n sl).h = (FO.mk 5 hh nx n sl).h,
 (FO.mk 5 hh nx n sl).sl = (FO.mk 5 hh nx n sl).sl,
 (FO.mk 5 hh nx n sl).sl = (FO.mk 5 hh nx n sl).sl,
 (FO.mk 5 hh nx n sl).h = (FO.mk 5 hh nx n sl).h,
 (FO.mk 5 hh nx n sl).n = (FO.mk 5 hh nx n sl).n,
 false = false,
 (fpT m f (ii + 1) (gPut x x.S x.R j (FO.mk 5 hh nx n sl))).n ≤ (fpT m f ii x).n,
 ∀ (i : Nat), i < (fpT m f (ii + 1) (gPut x x.S x.R j (FO.mk 5 hh nx n sl))).n → rowV (CM.mk 8 fam0 [(8, Src.nm 8), (9, Src.nm 9), (900, Src.nm 900), (901, Src.nm 901)]) fpF.sh 0 (lrow fam0 2 (fpT m f ii x).M j i) (lrow fam0 2 (fpT m f (ii + 1) (gPut x x.S x.R j (FO.mk 5 hh nx n sl))).M j i),
 (0 : Nat) = 0,
 (0 : Nat) = 0,
 (0 : Nat) = 0,
 (0 : Nat) = 0,
 true = true,
 (1 : Nat) ≤ (1 : Nat),
 tabF tab = tabF tab ∧ plainSh (List.map kindOfV tab) = true ∨ ∀ (i : Nat), i < 1 → rowOb (List.map kindOfV tab) 0 (tabF tab i) (tabF tab i),
 true = true,
 m ≤ m,
 f = f ∧ plainSh asSh = true ∨ ∀ (i : Nat), i < m → rowOb asSh 0 (f i) (f i),
 x.S.st = (gPut x x.S x.R j (FO.mk 5 hh nx n sl)).S.st,
 x.S.L.c = (gPut x x.S x.R j (FO.mk 5 hh nx n sl)).S.L.c,
 x.S.L.k = (gPut x x.S x.R j (FO.mk 5 hh nx n sl)).S.L.k,
 x.S.L.a = (gPut x x.S x.R j (FO.mk 5 hh nx n sl)).S.L.a,
 x.S.L.f = (gPut x x.S x.R j (FO.mk 5 hh nx n sl)).S.L.f,
 x.S.L.w = (gPut x x.S x.R j (FO.mk 5 hh nx n sl)).S.L.w,
 x.S.L.i = (gPut x x.S x.R j (FO.mk 5 hh nx n sl)).S.L.i,
 x.S.L.d = (gPut x x.S x.R j (FO.mk 5 hh nx n sl)).S.L.d,
 ∀ (k : List Int), x.S.M k = (gPut x x.S x.R j (FO.mk 5 hh nx n sl)).S.M k,
 (0 : Nat) = 0,
 x.R.D.n = (gPut x x.S x.R j (FO.mk 5 hh nx n sl)).R.D.n,
 (none : Option Nat) = none,
 x.R.st = (gPut x x.S x.R j (FO.mk 5 hh nx n sl)).R.st,
 x.R.L.c = (gPut x x.S x.R j (FO.mk 5 hh nx n sl)).R.L.c,
 x.R.L.k = (gPut x x.S x.R j (FO.mk 5 hh nx n sl)).R.L.k,
 x.R.L.a = (gPut x x.S x.R j (FO.mk 5 hh nx n sl)).R.L.a,
 x.R.L.f = (gPut x x.S x.R j (FO.mk 5 hh nx n sl)).R.L.f,
 x.R.L.w = (gPut x x.S x.R j (FO.mk 5 hh nx n sl)).R.L.w,
 x.R.L.i = (gPut x x.S x.R j (FO.mk 5 hh nx n sl)).R.L.i,
 x.R.L.d = (gPut x x.S x.R j (FO.mk 5 hh nx n sl)).R.L.d,
 false = false,
 (gPut x x.S x.R j (FO.mk 5 hh nx n sl)).R.D.n ≤ x.R.D.n,
 wdF (gPut x x.S x.R j (FO.mk 5 hh nx n sl)).R.D.W = wdF x.R.D.W ∧ plainSh wSh = true ∨ ∀ (i : Nat), i < (gPut x x.S x.R j (FO.mk 5 hh nx n sl)).R.D.n → rowOb wSh 0 (wdF x.R.D.W i) (wdF (gPut x x.S x.R j (FO.mk 5 hh nx n sl)).R.D.W i),
 Both x.S x.R,
 0 ≤ (FO.mk 5 hh nx n sl).h,
 (FO.mk 5 hh nx n sl).h < 18446744073709551616,
 lrow fam0 2 (fpT m f ii x).M j (0 + ((IntKind.u64.wrap (avInt (f (0 + ii) 1))).tmod (IntKind.u64.wrap (Int.ofNat x.n))).toNat) 2 = AV.ptr 901 0 0,
 lrow fam0 2 (fpT m f ii x).M j (0 + ((IntKind.u64.wrap (avInt (f (0 + ii) 1))).tmod (IntKind.u64.wrap (Int.ofNat x.n))).toNat) 1 = AV.ptr 900 0 0,
 lrow fam0 2 (fpT m f ii x).M j (0 + ((IntKind.u64.wrap (avInt (f (0 + ii) 1))).tmod (IntKind.u64.wrap (Int.ofNat x.n))).toNat) 0 = AV.nilp,
 (0 + ((IntKind.u64.wrap (avInt (f (0 + ii) 1))).tmod (IntKind.u64.wrap (Int.ofNat x.n))).toNat).blt (fpT m f ii x).n = true,
 (((IntKind.u64.wrap (avInt (f (0 + ii) 1))).tmod (IntKind.u64.wrap (Int.ofNat x.n))).toNat.blt x.n && decide (0 ≤ (IntKind.u64.wrap (avInt (f (0 + ii) 1))).tmod (IntKind.u64.wrap (Int.ofNat x.n)))) = true,
 decide (IntKind.u64.wrap (Int.ofNat x.n) ≠ 0) = true,
 (Int.ofNat x.n == 0) = false,
 ((avInt (f (0 + ii) 0)).tmod 6 == 2) = false,
 ((avInt (f (0 + ii) 0)).tmod 6 == 1) = false,
 ((avInt (f (0 + ii) 0)).tmod 6 == 0) = false,
 (0 + ii).blt m = true,
 (ii.blt m && decide (0 ≤ Int.ofNat ii)) = true,
 decide (Int.ofNat ii < Int.ofNat m) = true]) := by kernel_rfl
theorem f6_1 (m : Nat) (f : Nat → Nat → AV) (q : Nat) (h : Nat → Nat → AV) (ii : Nat) (x : GX FO) (j : Nat) (hh nx n sl : Int) : roundB Efp 3000 fpL (h0F fpF (fpU m f q h)) [(8, Src.nm 8), (9, Src.nm 9), (900, Src.nm 900), (901, Src.nm 901)] (locSt fpF (fpT m f ii x) true (fpMb (FO.mk 6 hh nx n sl)) j []) [Hint.b true, Hint.b false, Hint.b false, Hint.b false, Hint.b false, Hint.a AV.nilp, Hint.a (AV.ptr 900 0 0), Hint.a (AV.ptr 901 0 0), Hint.b true] (locSt fpF (fpT m f (ii + 1) (gPut x (mLoad x.S 0 0 0) (rLoad x.R 0 0 0) j (FO.mk 7 (mget x.S.M (key 0 0 0)) nx n sl))) true (fpMb (FO.mk 7 (mget x.S.M (key 0 0 0)) nx n sl)) j []) =
 some (Ex.norm, [(0 : Nat) = 0,
 m = m,
 (none : Option Nat) = none,
 (0 : Nat) = 0,
 (0 : Nat) = 0,
 (0 : Nat) = 0,
 x.n = (gPut x (mLoad x.S 0 0 0) (rLoad x.R 0 0 0) j (FO.mk 7 (mget x.S.M (key 0 0 0)) nx n sl)).n,
 (none : Option Nat) = none,
 IntKind.i64.wrap (Int.ofNat ii + 1) = Int.ofNat (ii + 1),
 mget x.S.M (key 0 0 0) = (FO.mk 7 (mget x.S.M (key 0 0 0)) nx n sl).h,
 (FO.mk 6 hh nx n sl).sl = (FO.mk 7 (mget x.S.M (key 0 0 0)) nx n sl).sl,
 (FO.mk 6 hh nx n sl).sl = (FO.mk 7 (mget x.S.M (key 0 0 0)) nx n sl).sl,
 dWord (dOf x.R.D.n (wdF x.R.D.W)) 0 0 0 = (FO.mk 7 (mget x.S.M (key 0 0 0)) nx n sl).h,
 (FO.mk 6 hh nx n sl).n = (FO.mk 7 (mget x.S.M (key 0 0 0)) nx n sl).n,
 false = false,
 (fpT m f (ii + 1) (gPut x (mLoad x.S 0 0 0) (rLoad x.R 0 0 0) j (FO.mk 7 (mget x.S.M (key 0 0 0)) nx n sl))).n ≤ (fpT m f ii x).n,
 ∀ (i : Nat), i < (fpT m f (ii + 1) (gPut x (mLoad x.S 0 0 0) (rLoad x.R 0 0 0) j (FO.mk 7 (mget x.S.M (key 0 0 0)) nx n sl))).n → rowV (CM.mk 8 fam0 [(8, Src.nm 8), (9, Src.nm 9), (900, Src.nm 900), (901, Src.nm 901)]) fpF.sh 0 (lrow fam0 2 (fpT m f ii x).M j i) (lrow fam0 2 (fpT m f (ii + 1) (gPut x (mLoad x.S 0 0 0) (rLoad x.R 0 0 0) j (FO.mk 7 (mget x.S.M (key 0 0 0)) nx n sl))).M j i),
 (0 : Nat) = 0,
 (0 : Nat) = 0,
 (0 : Nat) = 0,
 (0 : Nat) = 0,
 true = true,
 (1 : Nat) ≤ (1 : Nat),
 tabF tab = tabF tab ∧ plainSh (List.map kindOfV tab) = true ∨ ∀ (i : Nat), i < 1 → rowOb (List.map kindOfV tab) 0 (tabF tab i) (tabF tab i),
 true = true,
 m ≤ m,
 f = f ∧ plainSh asSh = true ∨ ∀ (i : Nat), i < m → rowOb asSh 0 (f i) (f i),
 (MS.mk x.S.M (IntKind.i64.wrap (x.S.st + 1)) (LS.mk 1 0 0 0 (mget x.S.M (key 0 0 0)) (mget x.S.M (key 0 0 0)) false)).st = (gPut x (mLoad x.S 0 0 0) (rLoad x.R 0 0 0) j (FO.mk 7 (mget x.S.M (key 0 0 0)) nx n sl)).S.st,
 (1 : Int) = 1,
 (0 : Int) = 0,
 (0 : Int) = 0,
 (0 : Int) = 0,
 (MS.mk x.S.M (IntKind.i64.wrap (x.S.st + 1)) (LS.mk 1 0 0 0 (mget x.S.M (key 0 0 0)) (mget x.S.M (key 0 0 0)) false)).L.w = (gPut x (mLoad x.S 0 0 0) (rLoad x.R 0 0 0) j (FO.mk 7 (mget x.S.M (key 0 0 0)) nx n sl)).S.L.w,
 (MS.mk x.S.M (IntKind.i64.wrap (x.S.st + 1)) (LS.mk 1 0 0 0 (mget x.S.M (key 0 0 0)) (mget x.S.M (key 0 0 0)) false)).L.i = (gPut x (mLoad x.S 0 0 0) (rLoad x.R 0 0 0) j (FO.mk 7 (mget x.S.M (key 0 0 0)) nx n sl)).S.L.i,
 (MS.mk x.S.M (IntKind.i64.wrap (x.S.st + 1)) (LS.mk 1 0 0 0 (mget x.S.M (key 0 0 0)) (mget x.S.M (key 0 0 0)) false)).L.d = (gPut x (mLoad x.S 0 0 0) (rLoad x.R 0 0 0) j (FO.mk 7 (mget x.S.M (key 0 0 0)) nx n sl)).S.L.d,
 ∀ (k : List Int), (MS.mk x.S.M (IntKind.i64.wrap (x.S.st + 1)) (LS.mk 1 0 0 0 (mget x.S.M (key 0 0 0)) (mget x.S.M (key 0 0 0)) false)).M k = (gPut x (mLoad x.S 0 0 0) (rLoad x.R 0 0 0) j (FO.mk 7 (mget x.S.M (key 0 0 0)) nx n sl)).S.M k,
 (0 : Nat) = 0,
 x.R.D.n = (gPut x (mLoad x.S 0 0 0) (rLoad x.R 0 0 0) j (FO.mk 7 (mget x.S.M (key 0 0 0)) nx n sl)).R.D.n,
 (none : Option Nat) = none,
 IntKind.i64.wrap (x.R.st + 1) = (gPut x (mLoad x.S 0 0 0) (rLoad x.R 0 0 0) j (FO.mk 7 (mget x.S.M (key 0 0 0)) nx n sl)).R.st,
 (1 : Int) = 1,
 (0 : Int) = 0,
 (0 : Int) = 0,
 (0 : Int) = 0,
 (LS.mk 1 0 0 0 (dWord (dOf x.R.D.n (wdF x.R.D.W)) 0 0 0) (dWord (dOf x.R.D.n (wdF x.R.D.W)) 0 0 0) false).w = (gPut x (mLoad x.S 0 0 0) (rLoad x.R 0 0 0) j (FO.mk 7 (mget x.S.M (key 0 0 0)) nx n sl)).R.L.w,
 (LS.mk 1 0 0 0 (dWord (dOf x.R.D.n (wdF x.R.D.W)) 0 0 0) (dWord (dOf x.R.D.n (wdF x.R.D.W)) 0 0 0) false).i = (gPut x (mLoad x.S 0 0 0) (rLoad x.R 0 0 0) j (FO.mk 7 (mget x.S.M (key 0 0 0)) nx n sl)).R.L.i,
 (LS.mk 1 0 0 0 (dWord (dOf x.R.D.n (wdF x.R.D.W)) 0 0 0) (dWord (dOf x.R.D.n (wdF x.R.D.W)) 0 0 0) false).d = (gPut x (mLoad x.S 0 0 0) (rLoad x.R 0 0 0) j (FO.mk 7 (mget x.S.M (key 0 0 0)) nx n sl)).R.L.d,
 false = false,
 (gPut x (mLoad x.S 0 0 0) (rLoad x.R 0 0 0) j (FO.mk 7 (mget x.S.M (key 0 0 0)) nx n sl)).R.D.n ≤ x.R.D.n,
 wdF (gPut x (mLoad x.S 0 0 0) (rLoad x.R 0 0 0) j (FO.mk 7 (mget x.S.M (key 0 0 0)) nx n sl)).R.D.W = wdF x.R.D.W ∧ plainSh wSh = true ∨ ∀ (i : Nat), i < (gPut x (mLoad x.S 0 0 0) (rLoad x.R 0 0 0) j (FO.mk 7 (mget x.S.M (key 0 0 0)) nx n sl)).R.D.n → rowOb wSh 0 (wdF x.R.D.W i) (wdF (gPut x (mLoad x.S 0 0 0) (rLoad x.R 0 0 0) j (FO.mk 7 (mget x.S.M (key 0 0 0)) nx n sl)).R.D.W i),
 Both (MS.mk x.S.M (IntKind.i64.wrap (x.S.st + 1)) (LS.mk 1 0 0 0 (mget x.S.M (key 0 0 0)) (mget x.S.M (key 0 0 0)) false)) (mkR x.R.D.n (wdF x.R.D.W) (IntKind.i64.wrap (x.R.st + 1)) (LS.mk 1 0 0 0 (dWord (dOf x.R.D.n (wdF x.R.D.W)) 0 0 0) (dWord (dOf x.R.D.n (wdF x.R.D.W)) 0 0 0) false)),
 TabIs tab (tabF tab),
 0 ≤ mget x.S.M (key 0 0 0),
 mget x.S.M (key 0 0 0) < 18446744073709551616,
 decide (hSlot (dWord (dOf x.R.D.n (wdF x.R.D.W)) 0 0 0) < 0) = true,
 0 ≤ dWord (dOf x.R.D.n (wdF x.R.D.W)) 0 0 0,
 dWord (dOf x.R.D.n (wdF x.R.D.W)) 0 0 0 < 18446744073709551616,
 x.R.D.n ≤ x.R.D.n,
 x.R.D.n ≤ 1000000,
 0 ≤ (FO.mk 6 hh nx n sl).h,
 (FO.mk 6 hh nx n sl).h < 18446744073709551616,
 lrow fam0 2 (fpT m f ii x).M j (0 + ((IntKind.u64.wrap (avInt (f (0 + ii) 1))).tmod (IntKind.u64.wrap (Int.ofNat x.n))).toNat) 2 = AV.ptr 901 0 0,
 lrow fam0 2 (fpT m f ii x).M j (0 + ((IntKind.u64.wrap (avInt (f (0 + ii) 1))).tmod (IntKind.u64.wrap (Int.ofNat x.n))).toNat) 1 = AV.ptr 900 0 0,
 lrow fam0 2 (fpT m f ii x).M j (0 + ((IntKind.u64.wrap (avInt (f (0 + ii) 1))).tmod (IntKind.u64.wrap (Int.ofNat x.n))).toNat) 0 = AV.nilp,
 (0 + ((IntKind.u64.wrap (avInt (f (0 + ii) 1))).tmod (IntKind.u64.wrap (Int.ofNat x.n))).toNat).blt (fpT m f ii x).n = true,
 (((IntKind.u64.wrap (avInt (f (0 + ii) 1))).tmod (IntKind.u64.wrap (Int.ofNat x.n))).toNat.blt x.n && decide (0 ≤ (IntKind.u64.wrap (avInt (f (0 + ii) 1))).tmod (IntKind.u64.wrap (Int.ofNat x.n)))) = true,
 decide (IntKind.u64.wrap (Int.ofNat x.n) ≠ 0) = true,
 (Int.ofNat x.n == 0) = false,
 ((avInt (f (0 + ii) 0)).tmod 6 == 2) = false,
 ((avInt (f (0 + ii) 0)).tmod 6 == 1) = false,
 ((avInt (f (0 + ii) 0)).tmod 6 == 0) = false,
 (0 + ii).blt m = true,
 (ii.blt m && decide (0 ≤ Int.ofNat ii)) = true,
 decide (Int.ofNat ii < Int.ofNat m) = true]) := by kernel_rfl
theorem f6_2 (m : Nat) (f : Nat → Nat → AV) (q : Nat) (h : Nat → Nat → AV) (ii : Nat) (x : GX FO) (j : Nat) (hh nx n sl : Int) : roundB Efp 3000 fpL (h0F fpF (fpU m f q h)) [(8, Src.nm 8), (9, Src.nm 9), (900, Src.nm 900), (901, Src.nm 901)] (locSt fpF (fpT m f ii x) true (fpMb (FO.mk 6 hh nx n sl)) j []) [Hint.b true, Hint.b false, Hint.b false, Hint.b false, Hint.b false, Hint.a AV.nilp, Hint.a (AV.ptr 900 0 0), Hint.a (AV.ptr 901 0 0), Hint.b false] (locSt fpF (fpT m f (ii + 1) (gPut x (mLoad x.S 0 0 0) (rLoad x.R 0 0 0) j (FO.mk 7 (mget x.S.M (key 0 0 0)) nx n sl))) true (fpMb (FO.mk 7 (mget x.S.M (key 0 0 0)) nx n sl)) j []) =
 some (Ex.norm, [(0 : Nat) = 0,
 m = m,
 (none : Option Nat) = none,
 (0 : Nat) = 0,
 (0 : Nat) = 0,
 (0 : Nat) = 0,
 x.n = (gPut x (mLoad x.S 0 0 0) (rLoad x.R 0 0 0) j (FO.mk 7 (mget x.S.M (key 0 0 0)) nx n sl)).n,
 (none : Option Nat) = none,
 IntKind.i64.wrap (Int.ofNat ii + 1) = Int.ofNat (ii + 1),
 mget x.S.M (key 0 0 0) = (FO.mk 7 (mget x.S.M (key 0 0 0)) nx n sl).h,
 (FO.mk 6 hh nx n sl).sl = (FO.mk 7 (mget x.S.M (key 0 0 0)) nx n sl).sl,
 (FO.mk 6 hh nx n sl).sl = (FO.mk 7 (mget x.S.M (key 0 0 0)) nx n sl).sl,
 dWord (dOf x.R.D.n (wdF x.R.D.W)) 0 0 0 = (FO.mk 7 (mget x.S.M (key 0 0 0)) nx n sl).h,
 (FO.mk 6 hh nx n sl).n = (FO.mk 7 (mget x.S.M (key 0 0 0)) nx n sl).n,
 false = false,
 (fpT m f (ii + 1) (gPut x (mLoad x.S 0 0 0) (rLoad x.R 0 0 0) j (FO.mk 7 (mget x.S.M (key 0 0 0)) nx n sl))).n ≤ (fpT m f ii x).n,
 ∀ (i : Nat), i < (fpT m f (ii + 1) (gPut x (mLoad x.S 0 0 0) (rLoad x.R 0 0 0) j (FO.mk 7 (mget x.S.M (key 0 0 0)) nx n sl))).n → rowV (CM.mk 8 fam0 [(8, Src.nm 8), (9, Src.nm 9), (900, Src.nm 900), (901, Src.nm 901)]) fpF.sh 0 (lrow fam0 2 (fpT m f ii x).M j i) (lrow fam0 2 (fpT m f (ii + 1) (gPut x (mLoad x.S 0 0 0) (rLoad x.R 0 0 0) j (FO.mk 7 (mget x.S.M (key 0 0 0)) nx n sl))).M j i),
 (0 : Nat) = 0,
 (0 : Nat) = 0,
 (0 : Nat) = 0,
 (0 : Nat) = 0,
 true = true,
 (1 : Nat) ≤ (1 : Nat),
 tabF tab = tabF tab ∧ plainSh (List.map kindOfV tab) = true ∨ ∀ (i : Nat), i < 1 → rowOb (List.map kindOfV tab) 0 (tabF tab i) (tabF tab i),
 true = true,
 m ≤ m,
 f = f ∧ plainSh asSh = true ∨ ∀ (i : Nat), i < m → rowOb asSh 0 (f i) (f i),
 (MS.mk x.S.M (IntKind.i64.wrap (x.S.st + 1)) (LS.mk 1 0 0 0 (mget x.S.M (key 0 0 0)) (mget x.S.M (key 0 0 0)) false)).st = (gPut x (mLoad x.S 0 0 0) (rLoad x.R 0 0 0) j (FO.mk 7 (mget x.S.M (key 0 0 0)) nx n sl)).S.st,
 (1 : Int) = 1,
 (0 : Int) = 0,
 (0 : Int) = 0,
 (0 : Int) = 0,
 (MS.mk x.S.M (IntKind.i64.wrap (x.S.st + 1)) (LS.mk 1 0 0 0 (mget x.S.M (key 0 0 0)) (mget x.S.M (key 0 0 0)) false)).L.w = (gPut x (mLoad x.S 0 0 0) (rLoad x.R 0 0 0) j (FO.mk 7 (mget x.S.M (key 0 0 0)) nx n sl)).S.L.w,
 (MS.mk x.S.M (IntKind.i64.wrap (x.S.st + 1)) (LS.mk 1 0 0 0 (mget x.S.M (key 0 0 0)) (mget x.S.M (key 0 0 0)) false)).L.i = (gPut x (mLoad x.S 0 0 0) (rLoad x.R 0 0 0) j (FO.mk 7 (mget x.S.M (key 0 0 0)) nx n sl)).S.L.i,
 (MS.mk x.S.M (IntKind.i64.wrap (x.S.st + 1)) (LS.mk 1 0 0 0 (mget x.S.M (key 0 0 0)) (mget x.S.M (key 0 0 0)) false)).L.d = (gPut x (mLoad x.S 0 0 0) (rLoad x.R 0 0 0) j (FO.mk 7 (mget x.S.M (key 0 0 0)) nx n sl)).S.L.d,
 ∀ (k : List Int), (MS.mk x.S.M (IntKind.i64.wrap (x.S.st + 1)) (LS.mk 1 0 0 0 (mget x.S.M (key 0 0 0)) (mget x.S.M (key 0 0 0)) false)).M k = (gPut x (mLoad x.S 0 0 0) (rLoad x.R 0 0 0) j (FO.mk 7 (mget x.S.M (key 0 0 0)) nx n sl)).S.M k,
 (0 : Nat) = 0,
 x.R.D.n = (gPut x (mLoad x.S 0 0 0) (rLoad x.R 0 0 0) j (FO.mk 7 (mget x.S.M (key 0 0 0)) nx n sl)).R.D.n,
 (none : Option Nat) = none,
 IntKind.i64.wrap (x.R.st + 1) = (gPut x (mLoad x.S 0 0 0) (rLoad x.R 0 0 0) j (FO.mk 7 (mget x.S.M (key 0 0 0)) nx n sl)).R.st,
 (1 : Int) = 1,
 (0 : Int) = 0,
 (0 : Int) = 0,
 (0 : Int) = 0,
 (LS.mk 1 0 0 0 (dWord (dOf x.R.D.n (wdF x.R.D.W)) 0 0 0) (dWord (dOf x.R.D.n (wdF x.R.D.W)) 0 0 0) false).w = (gPut x (mLoad x.S 0 0 0) (rLoad x.R 0 0 0) j (FO.mk 7 (mget x.S.M (key 0 0 0)) nx n sl)).R.L.w,
 (LS.mk 1 0 0 0 (dWord (dOf x.R.D.n (wdF x.R.D.W)) 0 0 0) (dWord (dOf x.R.D.n (wdF x.R.D.W)) 0 0 0) false).i = (gPut x (mLoad x.S 0 0 0) (rLoad x.R 0 0 0) j (FO.mk 7 (mget x.S.M (key 0 0 0)) nx n sl)).R.L.i,
 (LS.mk 1 0 0 0 (dWord (dOf x.R.D.n (wdF x.R.D.W)) 0 0 0) (dWord (dOf x.R.D.n (wdF x.R.D.W)) 0 0 0) false).d = (gPut x (mLoad x.S 0 0 0) (rLoad x.R 0 0 0) j (FO.mk 7 (mget x.S.M (key 0 0 0)) nx n sl)).R.L.d,
 false = false,
 (gPut x (mLoad x.S 0 0 0) (rLoad x.R 0 0 0) j (FO.mk 7 (mget x.S.M (key 0 0 0)) nx n sl)).R.D.n ≤ x.R.D.n,
 wdF (gPut x (mLoad x.S 0 0 0) (rLoad x.R 0 0 0) j (FO.mk 7 (mget x.S.M (key 0 0 0)) nx n sl)).R.D.W = wdF x.R.D.W ∧ plainSh wSh = true ∨ ∀ (i : Nat), i < (gPut x (mLoad x.S 0 0 0) (rLoad x.R 0 0 0) j (FO.mk 7 (mget x.S.M (key 0 0 0)) nx n sl)).R.D.n → rowOb wSh 0 (wdF x.R.D.W i) (wdF (gPut x (mLoad x.S 0 0 0) (rLoad x.R 0 0 0) j (FO.mk 7 (mget x.S.M (key 0 0 0)) nx n sl)).R.D.W i),
 Both (MS.mk x.S.M (IntKind.i64.wrap (x.S.st + 1)) (LS.mk 1 0 0 0 (mget x.S.M (key 0 0 0)) (mget x.S.M (key 0 0 0)) false)) (mkR x.R.D.n (wdF x.R.D.W) (IntKind.i64.wrap (x.R.st + 1)) (LS.mk 1 0 0 0 (dWord (dOf x.R.D.n (wdF x.R.D.W)) 0 0 0) (dWord (dOf x.R.D.n (wdF x.R.D.W)) 0 0 0) false)),
 TabIs tab (tabF tab),
 0 ≤ mget x.S.M (key 0 0 0),
 mget x.S.M (key 0 0 0) < 18446744073709551616,
 decide (hSlot (dWord (dOf x.R.D.n (wdF x.R.D.W)) 0 0 0) < 0) = false,
 0 ≤ dWord (dOf x.R.D.n (wdF x.R.D.W)) 0 0 0,
 dWord (dOf x.R.D.n (wdF x.R.D.W)) 0 0 0 < 18446744073709551616,
 x.R.D.n ≤ x.R.D.n,
 x.R.D.n ≤ 1000000,
 0 ≤ (FO.mk 6 hh nx n sl).h,
 (FO.mk 6 hh nx n sl).h < 18446744073709551616,
 lrow fam0 2 (fpT m f ii x).M j (0 + ((IntKind.u64.wrap (avInt (f (0 + ii) 1))).tmod (IntKind.u64.wrap (Int.ofNat x.n))).toNat) 2 = AV.ptr 901 0 0,
 lrow fam0 2 (fpT m f ii x).M j (0 + ((IntKind.u64.wrap (avInt (f (0 + ii) 1))).tmod (IntKind.u64.wrap (Int.ofNat x.n))).toNat) 1 = AV.ptr 900 0 0,
 lrow fam0 2 (fpT m f ii x).M j (0 + ((IntKind.u64.wrap (avInt (f (0 + ii) 1))).tmod (IntKind.u64.wrap (Int.ofNat x.n))).toNat) 0 = AV.nilp,
 (0 + ((IntKind.u64.wrap (avInt (f (0 + ii) 1))).tmod (IntKind.u64.wrap (Int.ofNat x.n))).toNat).blt (fpT m f ii x).n = true,
 (((IntKind.u64.wrap (avInt (f (0 + ii) 1))).tmod (IntKind.u64.wrap (Int.ofNat x.n))).toNat.blt x.n && decide (0 ≤ (IntKind.u64.wrap (avInt (f (0 + ii) 1))).tmod (IntKind.u64.wrap (Int.ofNat x.n)))) = true,
 decide (IntKind.u64.wrap (Int.ofNat x.n) ≠ 0) = true,
 (Int.ofNat x.n == 0) = false,
 ((avInt (f (0 + ii) 0)).tmod 6 == 2) = false,
 ((avInt (f (0 + ii) 0)).tmod 6 == 1) = false,
 ((avInt (f (0 + ii) 0)).tmod 6 == 0) = false,
 (0 + ii).blt m = true,
 (ii.blt m && decide (0 ≤ Int.ofNat ii)) = true,
 decide (Int.ofNat ii < Int.ofNat m) = true]) := by kernel_rfl
theorem f7_1 (m : Nat) (f : Nat → Nat → AV) (q : Nat) (h : Nat → Nat → AV) (ii : Nat) (x : GX FO) (j : Nat) (hh nx n sl : Int) : roundB Efp 3000 fpL (h0F fpF (fpU m f q h)) [(8, Src.nm 8), (9, Src.nm 818347651974035467503297424206899788054160511510766197370822842024033449101168638720817523081476039287721671031890017752304314136471348263332131898339), (900, Src.nm 900), (901, Src.nm 901)] (locSt fpF (fpT m f ii x) true (fpMb (FO.mk 7 hh nx n sl)) j []) [Hint.b true, Hint.b false, Hint.b false, Hint.b false, Hint.b false, Hint.a AV.nilp, Hint.a (AV.ptr 900 0 0), Hint.a (AV.ptr 901 0 0)] (locSt fpF (fpT m f (ii + 1) (gPut x (mStore x.S 9 sl 2 (hHead (hSlot hh) 0)) (rStore x.R 9 sl 2 (hHead (hSlot hh) 0)) j (FO.mk 8 hh nx n sl))) true (fpMb (FO.mk 8 hh nx n sl)) j []) =
 some (Ex.norm, [(0 : Nat) = 0,
 m = m,
 (none : Option Nat) = none,
 (0 : Nat) = 0,
 (0 : Nat) = 0,
 (0 : Nat) = 0,
 x.n = (gPut x (mStore x.S 9 sl 2 (hHead (hSlot hh) 0)) (rStore x.R 9 sl 2 (hHead (hSlot hh) 0)) j (FO.mk 8 hh nx n sl)).n,
 (none : Option Nat) = none,
 IntKind.i64.wrap (Int.ofNat ii + 1) = Int.ofNat (ii + 1),
 (FO.mk 7 hh nx n sl).h = (FO.mk 8 hh nx n sl).h,
 (FO.mk 7 hh nx n sl).sl = (FO.mk 8 hh nx n sl).sl,
 (FO.mk 7 hh nx n sl).sl = (FO.mk 8 hh nx n sl).sl,
 (FO.mk 7 hh nx n sl).h = (FO.mk 8 hh nx n sl).h,
 (FO.mk 7 hh nx n sl).n = (FO.mk 8 hh nx n sl).n,
 false = false,
 (fpT m f (ii + 1) (gPut x (mStore x.S 9 sl 2 (hHead (hSlot hh) 0)) (rStore x.R 9 sl 2 (hHead (hSlot hh) 0)) j (FO.mk 8 hh nx n sl))).n ≤ (fpT m f ii x).n,
 ∀ (i : Nat), i < (fpT m f (ii + 1) (gPut x (mStore x.S 9 sl 2 (hHead (hSlot hh) 0)) (rStore x.R 9 sl 2 (hHead (hSlot hh) 0)) j (FO.mk 8 hh nx n sl))).n → rowV (CM.mk 8 fam0 [(8, Src.nm 8), (9, Src.nm 818347651974035467503297424206899788054160511510766197370822842024033449101168638720817523081476039287721671031890017752304314136471348263332131898339), (900, Src.nm 900), (901, Src.nm 901)]) fpF.sh 0 (lrow fam0 2 (fpT m f ii x).M j i) (lrow fam0 2 (fpT m f (ii + 1) (gPut x (mStore x.S 9 sl 2 (hHead (hSlot hh) 0)) (rStore x.R 9 sl 2 (hHead (hSlot hh) 0)) j (FO.mk 8 hh nx n sl))).M j i),
 (0 : Nat) = 0,
 (0 : Nat) = 0,
 (0 : Nat) = 0,
 (0 : Nat) = 0,
 true = true,
 (1 : Nat) ≤ (1 : Nat),
 tabF tab = tabF tab ∧ plainSh (List.map kindOfV tab) = true ∨ ∀ (i : Nat), i < 1 → rowOb (List.map kindOfV tab) 0 (tabF tab i) (tabF tab i),
 true = true,
 m ≤ m,
 f = f ∧ plainSh asSh = true ∨ ∀ (i : Nat), i < m → rowOb asSh 0 (f i) (f i),
 (MS.mk (memPut x.S.M 9 (FO.mk 7 hh nx n sl).sl 2 (hHead (hSlot (FO.mk 7 hh nx n sl).h) 0)) (IntKind.i64.wrap (x.S.st + 1)) (LS.mk 2 9 (FO.mk 7 hh nx n sl).sl 2 (mget x.S.M (key 9 (FO.mk 7 hh nx n sl).sl 2)) (memIs x.S.M 9 (FO.mk 7 hh nx n sl).sl 2 (hHead (hSlot (FO.mk 7 hh nx n sl).h) 0)) false)).st = (gPut x (mStore x.S 9 sl 2 (hHead (hSlot hh) 0)) (rStore x.R 9 sl 2 (hHead (hSlot hh) 0)) j (FO.mk 8 hh nx n sl)).S.st,
 (2 : Int) = 2,
 (9 : Int) = 9,
 (MS.mk (memPut x.S.M 9 (FO.mk 7 hh nx n sl).sl 2 (hHead (hSlot (FO.mk 7 hh nx n sl).h) 0)) (IntKind.i64.wrap (x.S.st + 1)) (LS.mk 2 9 (FO.mk 7 hh nx n sl).sl 2 (mget x.S.M (key 9 (FO.mk 7 hh nx n sl).sl 2)) (memIs x.S.M 9 (FO.mk 7 hh nx n sl).sl 2 (hHead (hSlot (FO.mk 7 hh nx n sl).h) 0)) false)).L.a = (gPut x (mStore x.S 9 sl 2 (hHead (hSlot hh) 0)) (rStore x.R 9 sl 2 (hHead (hSlot hh) 0)) j (FO.mk 8 hh nx n sl)).S.L.a,
 (2 : Int) = 2,
 (MS.mk (memPut x.S.M 9 (FO.mk 7 hh nx n sl).sl 2 (hHead (hSlot (FO.mk 7 hh nx n sl).h) 0)) (IntKind.i64.wrap (x.S.st + 1)) (LS.mk 2 9 (FO.mk 7 hh nx n sl).sl 2 (mget x.S.M (key 9 (FO.mk 7 hh nx n sl).sl 2)) (memIs x.S.M 9 (FO.mk 7 hh nx n sl).sl 2 (hHead (hSlot (FO.mk 7 hh nx n sl).h) 0)) false)).L.w = (gPut x (mStore x.S 9 sl 2 (hHead (hSlot hh) 0)) (rStore x.R 9 sl 2 (hHead (hSlot hh) 0)) j (FO.mk 8 hh nx n sl)).S.L.w,
 (MS.mk (memPut x.S.M 9 (FO.mk 7 hh nx n sl).sl 2 (hHead (hSlot (FO.mk 7 hh nx n sl).h) 0)) (IntKind.i64.wrap (x.S.st + 1)) (LS.mk 2 9 (FO.mk 7 hh nx n sl).sl 2 (mget x.S.M (key 9 (FO.mk 7 hh nx n sl).sl 2)) (memIs x.S.M 9 (FO.mk 7 hh nx n sl).sl 2 (hHead (hSlot (FO.mk 7 hh nx n sl).h) 0)) false)).L.i = (gPut x (mStore x.S 9 sl 2 (hHead (hSlot hh) 0)) (rStore x.R 9 sl 2 (hHead (hSlot hh) 0)) j (FO.mk 8 hh nx n sl)).S.L.i,
 (MS.mk (memPut x.S.M 9 (FO.mk 7 hh nx n sl).sl 2 (hHead (hSlot (FO.mk 7 hh nx n sl).h) 0)) (IntKind.i64.wrap (x.S.st + 1)) (LS.mk 2 9 (FO.mk 7 hh nx n sl).sl 2 (mget x.S.M (key 9 (FO.mk 7 hh nx n sl).sl 2)) (memIs x.S.M 9 (FO.mk 7 hh nx n sl).sl 2 (hHead (hSlot (FO.mk 7 hh nx n sl).h) 0)) false)).L.d = (gPut x (mStore x.S 9 sl 2 (hHead (hSlot hh) 0)) (rStore x.R 9 sl 2 (hHead (hSlot hh) 0)) j (FO.mk 8 hh nx n sl)).S.L.d,
 ∀ (k : List Int), (MS.mk (memPut x.S.M 9 (FO.mk 7 hh nx n sl).sl 2 (hHead (hSlot (FO.mk 7 hh nx n sl).h) 0)) (IntKind.i64.wrap (x.S.st + 1)) (LS.mk 2 9 (FO.mk 7 hh nx n sl).sl 2 (mget x.S.M (key 9 (FO.mk 7 hh nx n sl).sl 2)) (memIs x.S.M 9 (FO.mk 7 hh nx n sl).sl 2 (hHead (hSlot (FO.mk 7 hh nx n sl).h) 0)) false)).M k = (gPut x (mStore x.S 9 sl 2 (hHead (hSlot hh) 0)) (rStore x.R 9 sl 2 (hHead (hSlot hh) 0)) j (FO.mk 8 hh nx n sl)).S.M k,
 (0 : Nat) = 0,
 (dPut (dOf x.R.D.n (wdF x.R.D.W)) 9 (FO.mk 7 hh nx n sl).sl 2 (hHead (hSlot (FO.mk 7 hh nx n sl).h) 0)).n = (gPut x (mStore x.S 9 sl 2 (hHead (hSlot hh) 0)) (rStore x.R 9 sl 2 (hHead (hSlot hh) 0)) j (FO.mk 8 hh nx n sl)).R.D.n,
 (none : Option Nat) = none,
 IntKind.i64.wrap (x.R.st + 1) = (gPut x (mStore x.S 9 sl 2 (hHead (hSlot hh) 0)) (rStore x.R 9 sl 2 (hHead (hSlot hh) 0)) j (FO.mk 8 hh nx n sl)).R.st,
 (2 : Int) = 2,
 (9 : Int) = 9,
 (LS.mk 2 9 (FO.mk 7 hh nx n sl).sl 2 (dWord (dOf x.R.D.n (wdF x.R.D.W)) 9 (FO.mk 7 hh nx n sl).sl 2) (dWord (dPut (dOf x.R.D.n (wdF x.R.D.W)) 9 (FO.mk 7 hh nx n sl).sl 2 (hHead (hSlot (FO.mk 7 hh nx n sl).h) 0)) 9 (FO.mk 7 hh nx n sl).sl 2) false).a = (gPut x (mStore x.S 9 sl 2 (hHead (hSlot hh) 0)) (rStore x.R 9 sl 2 (hHead (hSlot hh) 0)) j (FO.mk 8 hh nx n sl)).R.L.a,
 (2 : Int) = 2,
 (LS.mk 2 9 (FO.mk 7 hh nx n sl).sl 2 (dWord (dOf x.R.D.n (wdF x.R.D.W)) 9 (FO.mk 7 hh nx n sl).sl 2) (dWord (dPut (dOf x.R.D.n (wdF x.R.D.W)) 9 (FO.mk 7 hh nx n sl).sl 2 (hHead (hSlot (FO.mk 7 hh nx n sl).h) 0)) 9 (FO.mk 7 hh nx n sl).sl 2) false).w = (gPut x (mStore x.S 9 sl 2 (hHead (hSlot hh) 0)) (rStore x.R 9 sl 2 (hHead (hSlot hh) 0)) j (FO.mk 8 hh nx n sl)).R.L.w,
 (LS.mk 2 9 (FO.mk 7 hh nx n sl).sl 2 (dWord (dOf x.R.D.n (wdF x.R.D.W)) 9 (FO.mk 7 hh nx n sl).sl 2) (dWord (dPut (dOf x.R.D.n (wdF x.R.D.W)) 9 (FO.mk 7 hh nx n sl).sl 2 (hHead (hSlot (FO.mk 7 hh nx n sl).h) 0)) 9 (FO.mk 7 hh nx n sl).sl 2) false).i = (gPut x (mStore x.S 9 sl 2 (hHead (hSlot hh) 0)) (rStore x.R 9 sl 2 (hHead (hSlot hh) 0)) j (FO.mk 8 hh nx n sl)).R.L.i,
 (LS.mk 2 9 (FO.mk 7 hh nx n sl).sl 2 (dWord (dOf x.R.D.n (wdF x.R.D.W)) 9 (FO.mk 7 hh nx n sl).sl 2) (dWord (dPut (dOf x.R.D.n (wdF x.R.D.W)) 9 (FO.mk 7 hh nx n sl).sl 2 (hHead (hSlot (FO.mk 7 hh nx n sl).h) 0)) 9 (FO.mk 7 hh nx n sl).sl 2) false).d = (gPut x (mStore x.S 9 sl 2 (hHead (hSlot hh) 0)) (rStore x.R 9 sl 2 (hHead (hSlot hh) 0)) j (FO.mk 8 hh nx n sl)).R.L.d,
 false = false,
 (gPut x (mStore x.S 9 sl 2 (hHead (hSlot hh) 0)) (rStore x.R 9 sl 2 (hHead (hSlot hh) 0)) j (FO.mk 8 hh nx n sl)).R.D.n ≤ (dPut (dOf x.R.D.n (wdF x.R.D.W)) 9 (FO.mk 7 hh nx n sl).sl 2 (hHead (hSlot (FO.mk 7 hh nx n sl).h) 0)).n,
 wdF (gPut x (mStore x.S 9 sl 2 (hHead (hSlot hh) 0)) (rStore x.R 9 sl 2 (hHead (hSlot hh) 0)) j (FO.mk 8 hh nx n sl)).R.D.W = wdF (dPut (dOf x.R.D.n (wdF x.R.D.W)) 9 (FO.mk 7 hh nx n sl).sl 2 (hHead (hSlot (FO.mk 7 hh nx n sl).h) 0)).W ∧ plainSh wSh = true ∨ ∀ (i : Nat), i < (gPut x (mStore x.S 9 sl 2 (hHead (hSlot hh) 0)) (rStore x.R 9 sl 2 (hHead (hSlot hh) 0)) j (FO.mk 8 hh nx n sl)).R.D.n → rowOb wSh 0 (wdF (dPut (dOf x.R.D.n (wdF x.R.D.W)) 9 (FO.mk 7 hh nx n sl).sl 2 (hHead (hSlot (FO.mk 7 hh nx n sl).h) 0)).W i) (wdF (gPut x (mStore x.S 9 sl 2 (hHead (hSlot hh) 0)) (rStore x.R 9 sl 2 (hHead (hSlot hh) 0)) j (FO.mk 8 hh nx n sl)).R.D.W i),
 Both (MS.mk (memPut x.S.M 9 (FO.mk 7 hh nx n sl).sl 2 (hHead (hSlot (FO.mk 7 hh nx n sl).h) 0)) (IntKind.i64.wrap (x.S.st + 1)) (LS.mk 2 9 (FO.mk 7 hh nx n sl).sl 2 (mget x.S.M (key 9 (FO.mk 7 hh nx n sl).sl 2)) (memIs x.S.M 9 (FO.mk 7 hh nx n sl).sl 2 (hHead (hSlot (FO.mk 7 hh nx n sl).h) 0)) false)) (mkR (dPut (dOf x.R.D.n (wdF x.R.D.W)) 9 (FO.mk 7 hh nx n sl).sl 2 (hHead (hSlot (FO.mk 7 hh nx n sl).h) 0)).n (wdF (dPut (dOf x.R.D.n (wdF x.R.D.W)) 9 (FO.mk 7 hh nx n sl).sl 2 (hHead (hSlot (FO.mk 7 hh nx n sl).h) 0)).W) (IntKind.i64.wrap (x.R.st + 1)) (LS.mk 2 9 (FO.mk 7 hh nx n sl).sl 2 (dWord (dOf x.R.D.n (wdF x.R.D.W)) 9 (FO.mk 7 hh nx n sl).sl 2) (dWord (dPut (dOf x.R.D.n (wdF x.R.D.W)) 9 (FO.mk 7 hh nx n sl).sl 2 (hHead (hSlot (FO.mk 7 hh nx n sl).h) 0)) 9 (FO.mk 7 hh nx n sl).sl 2) false)),
 (0 : Int) ≤ (9 : Int),
 TabIs tab (tabF tab),
 (0 : Int) ≤ (0 : Int),
 (0 : Int) < (18446744073709551616 : Int),
 TabIs tab (tabF tab),
 0 ≤ (FO.mk 7 hh nx n sl).h,
 (FO.mk 7 hh nx n sl).h < 18446744073709551616,
 x.R.D.n ≤ x.R.D.n,
 x.R.D.n ≤ 100000,
 (0 : Int) ≤ (9 : Int),
 (0 : Int) ≤ (0 : Int),
 (0 : Int) < (18446744073709551616 : Int),
 0 ≤ (FO.mk 7 hh nx n sl).h,
 (FO.mk 7 hh nx n sl).h < 18446744073709551616,
 lrow fam0 2 (fpT m f ii x).M j (0 + ((IntKind.u64.wrap (avInt (f (0 + ii) 1))).tmod (IntKind.u64.wrap (Int.ofNat x.n))).toNat) 2 = AV.ptr 901 0 0,
 lrow fam0 2 (fpT m f ii x).M j (0 + ((IntKind.u64.wrap (avInt (f (0 + ii) 1))).tmod (IntKind.u64.wrap (Int.ofNat x.n))).toNat) 1 = AV.ptr 900 0 0,
 lrow fam0 2 (fpT m f ii x).M j (0 + ((IntKind.u64.wrap (avInt (f (0 + ii) 1))).tmod (IntKind.u64.wrap (Int.ofNat x.n))).toNat) 0 = AV.nilp,
 (0 + ((IntKind.u64.wrap (avInt (f (0 + ii) 1))).tmod (IntKind.u64.wrap (Int.ofNat x.n))).toNat).blt (fpT m f ii x).n = true,
 (((IntKind.u64.wrap (avInt (f (0 + ii) 1))).tmod (IntKind.u64.wrap (Int.ofNat x.n))).toNat.blt x.n && decide (0 ≤ (IntKind.u64.wrap (avInt (f (0 + ii) 1))).tmod (IntKind.u64.wrap (Int.ofNat x.n)))) = true,
 decide (IntKind.u64.wrap (Int.ofNat x.n) ≠ 0) = true,
 (Int.ofNat x.n == 0) = false,
 ((avInt (f (0 + ii) 0)).tmod 6 == 2) = false,
 ((avInt (f (0 + ii) 0)).tmod 6 == 1) = false,
 ((avInt (f (0 + ii) 0)).tmod 6 == 0) = false,
 (0 + ii).blt m = true,
 (ii.blt m && decide (0 ≤ Int.ofNat ii)) = true,
 decide (Int.ofNat ii < Int.ofNat m) = true]) := by kernel_rfl
theorem f8a_1 (m : Nat) (f : Nat → Nat → AV) (q : Nat) (h : Nat → Nat → AV) (ii : Nat) (x : GX FO) (j : Nat) (hh nx n sl : Int) : roundB Efp 3000 fpL (h0F fpF (fpU m f q h)) [(8, Src.nm 8), (9, Src.nm 1022934564967544334379121780258624735067700639388457746713528552530041811376460798401021903851845049109652088789862522190380392670589185329165164872673), (900, Src.nm 900), (901, Src.nm 901)] (locSt fpF (fpT m f ii x) true (fpMb (FO.mk 8 hh nx n sl)) j []) [Hint.b true, Hint.b false, Hint.b false, Hint.b false, Hint.b false, Hint.a AV.nilp, Hint.a (AV.ptr 900 0 0), Hint.a (AV.ptr 901 0 0), Hint.node [], Hint.b true, Hint.node [(8, [Hint.node [], Hint.b false])]] (locSt fpF (fpT m f (ii + 1) (gPut x (mCas x.S 0 0 0 hh (hHead sl (IntKind.u64.wrap (hTag hh + 1)))) (rCas x.R 0 0 0 hh (hHead sl (IntKind.u64.wrap (hTag hh + 1)))) j (FO.mk 5 hh nx n sl))) true (fpMb (FO.mk 5 hh nx n sl)) j []) =
 some (Ex.norm, [(0 : Nat) = 0,
 m = m,
 (none : Option Nat) = none,
 (0 : Nat) = 0,
 (0 : Nat) = 0,
 (0 : Nat) = 0,
 x.n = (gPut x (mCas x.S 0 0 0 hh (hHead sl (IntKind.u64.wrap (hTag hh + 1)))) (rCas x.R 0 0 0 hh (hHead sl (IntKind.u64.wrap (hTag hh + 1)))) j (FO.mk 5 hh nx n sl)).n,
 (none : Option Nat) = none,
 IntKind.i64.wrap (Int.ofNat ii + 1) = Int.ofNat (ii + 1),
 (FO.mk 8 hh nx n sl).h = (FO.mk 5 hh nx n sl).h,
 (FO.mk 8 hh nx n sl).sl = (FO.mk 5 hh nx n sl).sl,
 (FO.mk 8 hh nx n sl).sl = (FO.mk 5 hh nx n sl).sl,
 (FO.mk 8 hh nx n sl).h = (FO.mk 5 hh nx n sl).h,
 (FO.mk 8 hh nx n sl).n = (FO.mk 5 hh nx n sl).n,
 false = false,
 (fpT m f (ii + 1) (gPut x (mCas x.S 0 0 0 hh (hHead sl (IntKind.u64.wrap (hTag hh + 1)))) (rCas x.R 0 0 0 hh (hHead sl (IntKind.u64.wrap (hTag hh + 1)))) j (FO.mk 5 hh nx n sl))).n ≤ (fpT m f ii x).n,
 ∀ (i : Nat), i < (fpT m f (ii + 1) (gPut x (mCas x.S 0 0 0 hh (hHead sl (IntKind.u64.wrap (hTag hh + 1)))) (rCas x.R 0 0 0 hh (hHead sl (IntKind.u64.wrap (hTag hh + 1)))) j (FO.mk 5 hh nx n sl))).n → rowV (CM.mk 8 fam0 [(8, Src.nm 8), (9, Src.nm 1022934564967544334379121780258624735067700639388457746713528552530041811376460798401021903851845049109652088789862522190380392670589185329165164872673), (900, Src.nm 900), (901, Src.nm 901)]) fpF.sh 0 (lrow fam0 2 (fpT m f ii x).M j i) (lrow fam0 2 (fpT m f (ii + 1) (gPut x (mCas x.S 0 0 0 hh (hHead sl (IntKind.u64.wrap (hTag hh + 1)))) (rCas x.R 0 0 0 hh (hHead sl (IntKind.u64.wrap (hTag hh + 1)))) j (FO.mk 5 hh nx n sl))).M j i),
 (0 : Nat) = 0,
 (0 : Nat) = 0,
 (0 : Nat) = 0,
 (0 : Nat) = 0,
 true = true,
 (1 : Nat) ≤ (1 : Nat),
 tabF tab = tabF tab ∧ plainSh (List.map kindOfV tab) = true ∨ ∀ (i : Nat), i < 1 → rowOb (List.map kindOfV tab) 0 (tabF tab i) (tabF tab i),
 true = true,
 m ≤ m,
 f = f ∧ plainSh asSh = true ∨ ∀ (i : Nat), i < m → rowOb asSh 0 (f i) (f i),
 (MS.mk (casM x.S.M 0 0 0 (FO.mk 8 hh nx n sl).h (hHead (FO.mk 8 hh nx n sl).sl (IntKind.u64.wrap (hTag (FO.mk 8 hh nx n sl).h + 1)))) (IntKind.i64.wrap (x.S.st + 1)) (LS.mk 3 0 0 0 (mget x.S.M (key 0 0 0)) (casI x.S.M 0 0 0 (FO.mk 8 hh nx n sl).h (hHead (FO.mk 8 hh nx n sl).sl (IntKind.u64.wrap (hTag (FO.mk 8 hh nx n sl).h + 1)))) (casD x.S.M 0 0 0 (FO.mk 8 hh nx n sl).h))).st = (gPut x (mCas x.S 0 0 0 hh (hHead sl (IntKind.u64.wrap (hTag hh + 1)))) (rCas x.R 0 0 0 hh (hHead sl (IntKind.u64.wrap (hTag hh + 1)))) j (FO.mk 5 hh nx n sl)).S.st,
 (3 : Int) = 3,
 (0 : Int) = 0,
 (0 : Int) = 0,
 (0 : Int) = 0,
 (MS.mk (casM x.S.M 0 0 0 (FO.mk 8 hh nx n sl).h (hHead (FO.mk 8 hh nx n sl).sl (IntKind.u64.wrap (hTag (FO.mk 8 hh nx n sl).h + 1)))) (IntKind.i64.wrap (x.S.st + 1)) (LS.mk 3 0 0 0 (mget x.S.M (key 0 0 0)) (casI x.S.M 0 0 0 (FO.mk 8 hh nx n sl).h (hHead (FO.mk 8 hh nx n sl).sl (IntKind.u64.wrap (hTag (FO.mk 8 hh nx n sl).h + 1)))) (casD x.S.M 0 0 0 (FO.mk 8 hh nx n sl).h))).L.w = (gPut x (mCas x.S 0 0 0 hh (hHead sl (IntKind.u64.wrap (hTag hh + 1)))) (rCas x.R 0 0 0 hh (hHead sl (IntKind.u64.wrap (hTag hh + 1)))) j (FO.mk 5 hh nx n sl)).S.L.w,
 (MS.mk (casM x.S.M 0 0 0 (FO.mk 8 hh nx n sl).h (hHead (FO.mk 8 hh nx n sl).sl (IntKind.u64.wrap (hTag (FO.mk 8 hh nx n sl).h + 1)))) (IntKind.i64.wrap (x.S.st + 1)) (LS.mk 3 0 0 0 (mget x.S.M (key 0 0 0)) (casI x.S.M 0 0 0 (FO.mk 8 hh nx n sl).h (hHead (FO.mk 8 hh nx n sl).sl (IntKind.u64.wrap (hTag (FO.mk 8 hh nx n sl).h + 1)))) (casD x.S.M 0 0 0 (FO.mk 8 hh nx n sl).h))).L.i = (gPut x (mCas x.S 0 0 0 hh (hHead sl (IntKind.u64.wrap (hTag hh + 1)))) (rCas x.R 0 0 0 hh (hHead sl (IntKind.u64.wrap (hTag hh + 1)))) j (FO.mk 5 hh nx n sl)).S.L.i,
 (MS.mk (casM x.S.M 0 0 0 (FO.mk 8 hh nx n sl).h (hHead (FO.mk 8 hh nx n sl).sl (IntKind.u64.wrap (hTag (FO.mk 8 hh nx n sl).h + 1)))) (IntKind.i64.wrap (x.S.st + 1)) (LS.mk 3 0 0 0 (mget x.S.M (key 0 0 0)) (casI x.S.M 0 0 0 (FO.mk 8 hh nx n sl).h (hHead (FO.mk 8 hh nx n sl).sl (IntKind.u64.wrap (hTag (FO.mk 8 hh nx n sl).h + 1)))) (casD x.S.M 0 0 0 (FO.mk 8 hh nx n sl).h))).L.d = (gPut x (mCas x.S 0 0 0 hh (hHead sl (IntKind.u64.wrap (hTag hh + 1)))) (rCas x.R 0 0 0 hh (hHead sl (IntKind.u64.wrap (hTag hh + 1)))) j (FO.mk 5 hh nx n sl)).S.L.d,
 ∀ (k : List Int), (MS.mk (casM x.S.M 0 0 0 (FO.mk 8 hh nx n sl).h (hHead (FO.mk 8 hh nx n sl).sl (IntKind.u64.wrap (hTag (FO.mk 8 hh nx n sl).h + 1)))) (IntKind.i64.wrap (x.S.st + 1)) (LS.mk 3 0 0 0 (mget x.S.M (key 0 0 0)) (casI x.S.M 0 0 0 (FO.mk 8 hh nx n sl).h (hHead (FO.mk 8 hh nx n sl).sl (IntKind.u64.wrap (hTag (FO.mk 8 hh nx n sl).h + 1)))) (casD x.S.M 0 0 0 (FO.mk 8 hh nx n sl).h))).M k = (gPut x (mCas x.S 0 0 0 hh (hHead sl (IntKind.u64.wrap (hTag hh + 1)))) (rCas x.R 0 0 0 hh (hHead sl (IntKind.u64.wrap (hTag hh + 1)))) j (FO.mk 5 hh nx n sl)).S.M k,
 (0 : Nat) = 0,
 (dCasM (dOf x.R.D.n (wdF x.R.D.W)) 0 0 0 (FO.mk 8 hh nx n sl).h (hHead (FO.mk 8 hh nx n sl).sl (IntKind.u64.wrap (hTag (FO.mk 8 hh nx n sl).h + 1)))).n = (gPut x (mCas x.S 0 0 0 hh (hHead sl (IntKind.u64.wrap (hTag hh + 1)))) (rCas x.R 0 0 0 hh (hHead sl (IntKind.u64.wrap (hTag hh + 1)))) j (FO.mk 5 hh nx n sl)).R.D.n,
 (none : Option Nat) = none,
 IntKind.i64.wrap (x.R.st + 1) = (gPut x (mCas x.S 0 0 0 hh (hHead sl (IntKind.u64.wrap (hTag hh + 1)))) (rCas x.R 0 0 0 hh (hHead sl (IntKind.u64.wrap (hTag hh + 1)))) j (FO.mk 5 hh nx n sl)).R.st,
 (3 : Int) = 3,
 (0 : Int) = 0,
 (0 : Int) = 0,
 (0 : Int) = 0,
 (LS.mk 3 0 0 0 (dWord (dOf x.R.D.n (wdF x.R.D.W)) 0 0 0) (dWord (dCasM (dOf x.R.D.n (wdF x.R.D.W)) 0 0 0 (FO.mk 8 hh nx n sl).h (hHead (FO.mk 8 hh nx n sl).sl (IntKind.u64.wrap (hTag (FO.mk 8 hh nx n sl).h + 1)))) 0 0 0) (dCasD (dOf x.R.D.n (wdF x.R.D.W)) 0 0 0 (FO.mk 8 hh nx n sl).h)).w = (gPut x (mCas x.S 0 0 0 hh (hHead sl (IntKind.u64.wrap (hTag hh + 1)))) (rCas x.R 0 0 0 hh (hHead sl (IntKind.u64.wrap (hTag hh + 1)))) j (FO.mk 5 hh nx n sl)).R.L.w,
 (LS.mk 3 0 0 0 (dWord (dOf x.R.D.n (wdF x.R.D.W)) 0 0 0) (dWord (dCasM (dOf x.R.D.n (wdF x.R.D.W)) 0 0 0 (FO.mk 8 hh nx n sl).h (hHead (FO.mk 8 hh nx n sl).sl (IntKind.u64.wrap (hTag (FO.mk 8 hh nx n sl).h + 1)))) 0 0 0) (dCasD (dOf x.R.D.n (wdF x.R.D.W)) 0 0 0 (FO.mk 8 hh nx n sl).h)).i = (gPut x (mCas x.S 0 0 0 hh (hHead sl (IntKind.u64.wrap (hTag hh + 1)))) (rCas x.R 0 0 0 hh (hHead sl (IntKind.u64.wrap (hTag hh + 1)))) j (FO.mk 5 hh nx n sl)).R.L.i,
 (LS.mk 3 0 0 0 (dWord (dOf x.R.D.n (wdF x.R.D.W)) 0 0 0) (dWord (dCasM (dOf x.R.D.n (wdF x.R.D.W)) 0 0 0 (FO.mk 8 hh nx n sl).h (hHead (FO.mk 8 hh nx n sl).sl (IntKind.u64.wrap (hTag (FO.mk 8 hh nx n sl).h + 1)))) 0 0 0) (dCasD (dOf x.R.D.n (wdF x.R.D.W)) 0 0 0 (FO.mk 8 hh nx n sl).h)).d = (gPut x (mCas x.S 0 0 0 hh (hHead sl (IntKind.u64.wrap (hTag hh + 1)))) (rCas x.R 0 0 0 hh (hHead sl (IntKind.u64.wrap (hTag hh + 1)))) j (FO.mk 5 hh nx n sl)).R.L.d,
 false = false,
 (gPut x (mCas x.S 0 0 0 hh (hHead sl (IntKind.u64.wrap (hTag hh + 1)))) (rCas x.R 0 0 0 hh (hHead sl (IntKind.u64.wrap (hTag hh + 1)))) j (FO.mk 5 hh nx n sl)).R.D.n ≤ (dCasM (dOf x.R.D.n (wdF x.R.D.W)) 0 0 0 (FO.mk 8 hh nx n sl).h (hHead (FO.mk 8 hh nx n sl).sl (IntKind.u64.wrap (hTag (FO.mk 8 hh nx n sl).h + 1)))).n,
 wdF (gPut x (mCas x.S 0 0 0 hh (hHead sl (IntKind.u64.wrap (hTag hh + 1)))) (rCas x.R 0 0 0 hh (hHead sl (IntKind.u64.wrap (hTag hh + 1)))) j (FO.mk 5 hh nx n sl)).R.D.W = wdF (dCasM (dOf x.R.D.n (wdF x.R.D.W)) 0 0 0 (FO.mk 8 hh nx n sl).h (hHead (FO.mk 8 hh nx n sl).sl (IntKind.u64.wrap (hTag (FO.mk 8 hh nx n sl).h + 1)))).W ∧ plainSh wSh = true ∨ ∀ (i : Nat), i < (gPut x (mCas x.S 0 0 0 hh (hHead sl (IntKind.u64.wrap (hTag hh + 1)))) (rCas x.R 0 0 0 hh (hHead sl (IntKind.u64.wrap (hTag hh + 1)))) j (FO.mk 5 hh nx n sl)).R.D.n → rowOb wSh 0 (wdF (dCasM (dOf x.R.D.n (wdF x.R.D.W)) 0 0 0 (FO.mk 8 hh nx n sl).h (hHead (FO.mk 8 hh nx n sl).sl (IntKind.u64.wrap (hTag (FO.mk 8 hh nx n sl).h + 1)))).W i) (wdF (gPut x (mCas x.S 0 0 0 hh (hHead sl (IntKind.u64.wrap (hTag hh + 1)))) (rCas x.R 0 0 0 hh (hHead sl (IntKind.u64.wrap (hTag hh + 1)))) j (FO.mk 5 hh nx n sl)).R.D.W i),
 Both (MS.mk (casM x.S.M 0 0 0 (FO.mk 8 hh nx n sl).h (hHead (FO.mk 8 hh nx n sl).sl (IntKind.u64.wrap (hTag (FO.mk 8 hh nx n sl).h + 1)))) (IntKind.i64.wrap (x.S.st + 1)) (LS.mk 3 0 0 0 (mget x.S.M (key 0 0 0)) (casI x.S.M 0 0 0 (FO.mk 8 hh nx n sl).h (hHead (FO.mk 8 hh nx n sl).sl (IntKind.u64.wrap (hTag (FO.mk 8 hh nx n sl).h + 1)))) (casD x.S.M 0 0 0 (FO.mk 8 hh nx n sl).h))) (mkR (dCasM (dOf x.R.D.n (wdF x.R.D.W)) 0 0 0 (FO.mk 8 hh nx n sl).h (hHead (FO.mk 8 hh nx n sl).sl (IntKind.u64.wrap (hTag (FO.mk 8 hh nx n sl).h + 1)))).n (wdF (dCasM (dOf x.R.D.n (wdF x.R.D.W)) 0 0 0 (FO.mk 8 hh nx n sl).h (hHead (FO.mk 8 hh nx n sl).sl (IntKind.u64.wrap (hTag (FO.mk 8 hh nx n sl).h + 1)))).W) (IntKind.i64.wrap (x.R.st + 1)) (LS.mk 3 0 0 0 (dWord (dOf x.R.D.n (wdF x.R.D.W)) 0 0 0) (dWord (dCasM (dOf x.R.D.n (wdF x.R.D.W)) 0 0 0 (FO.mk 8 hh nx n sl).h (hHead (FO.mk 8 hh nx n sl).sl (IntKind.u64.wrap (hTag (FO.mk 8 hh nx n sl).h + 1)))) 0 0 0) (dCasD (dOf x.R.D.n (wdF x.R.D.W)) 0 0 0 (FO.mk 8 hh nx n sl).h))),
 (!casD x.S.M 0 0 0 (FO.mk 8 hh nx n sl).h) = false,
 (0 : Int) ≤ (0 : Int),
 TabIs tab (tabF tab),
 0 ≤ IntKind.u64.wrap (hTag (FO.mk 8 hh nx n sl).h + 1),
 IntKind.u64.wrap (hTag (FO.mk 8 hh nx n sl).h + 1) < 18446744073709551616,
 TabIs tab (tabF tab),
 0 ≤ (FO.mk 8 hh nx n sl).h,
 (FO.mk 8 hh nx n sl).h < 18446744073709551616,
 dCasD (dOf x.R.D.n (wdF x.R.D.W)) 0 0 0 (FO.mk 8 hh nx n sl).h = true,
 x.R.D.n ≤ x.R.D.n,
 x.R.D.n ≤ 100000,
 (0 : Int) ≤ (0 : Int),
 0 ≤ IntKind.u64.wrap (hTag (FO.mk 8 hh nx n sl).h + 1),
 IntKind.u64.wrap (hTag (FO.mk 8 hh nx n sl).h + 1) < 18446744073709551616,
 0 ≤ (FO.mk 8 hh nx n sl).h,
 (FO.mk 8 hh nx n sl).h < 18446744073709551616,
 lrow fam0 2 (fpT m f ii x).M j (0 + ((IntKind.u64.wrap (avInt (f (0 + ii) 1))).tmod (IntKind.u64.wrap (Int.ofNat x.n))).toNat) 2 = AV.ptr 901 0 0,
 lrow fam0 2 (fpT m f ii x).M j (0 + ((IntKind.u64.wrap (avInt (f (0 + ii) 1))).tmod (IntKind.u64.wrap (Int.ofNat x.n))).toNat) 1 = AV.ptr 900 0 0,
 lrow fam0 2 (fpT m f ii x).M j (0 + ((IntKind.u64.wrap (avInt (f (0 + ii) 1))).tmod (IntKind.u64.wrap (Int.ofNat x.n))).toNat) 0 = AV.nilp,
 (0 + ((IntKind.u64.wrap (avInt (f (0 + ii) 1))).tmod (IntKind.u64.wrap (Int.ofNat x.n))).toNat).blt (fpT m f ii x).n = true,
 (((IntKind.u64.wrap (avInt (f (0 + ii) 1))).tmod (IntKind.u64.wrap (Int.ofNat x.n))).toNat.blt x.n && decide (0 ≤ (IntKind.u64.wrap (avInt (f (0 + ii) 1))).tmod (IntKind.u64.wrap (Int.ofNat x.n)))) = true,
 decide (IntKind.u64.wrap (Int.ofNat x.n) ≠ 0) = true,
 (Int.ofNat x.n == 0) = false,
 ((avInt (f (0 + ii) 0)).tmod 6 == 2) = false,
 ((avInt (f (0 + ii) 0)).tmod 6 == 1) = false,
 ((avInt (f (0 + ii) 0)).tmod 6 == 0) = false,
 (0 + ii).blt m = true,
 (ii.blt m && decide (0 ≤ Int.ofNat ii)) = true,
 decide (Int.ofNat ii < Int.ofNat m) = true]) := by kernel_rfl
theorem f8b_1 (m : Nat) (f : Nat → Nat → AV) (q : Nat) (h : Nat → Nat → AV) (ii : Nat) (x : GX FO) (j : Nat) (hh nx n sl : Int) : roundB Efp 3000 fpL (h0F fpF (fpU m f q h)) [(8, Src.nm 8), (9, Src.nm 1022934564967544334379121780258624735067700639388457746713528552530041811376460798401021903851845049109652088789862522190380392670589185329165164872673), (900, Src.nm 900), (901, Src.nm 901)] (locSt fpF (fpT m f ii x) true (fpMb (FO.mk 8 hh nx n sl)) j []) [Hint.b true, Hint.b false, Hint.b false, Hint.b false, Hint.b false, Hint.a AV.nilp, Hint.a (AV.ptr 900 0 0), Hint.a (AV.ptr 901 0 0), Hint.node [], Hint.b false, Hint.node [(8, [Hint.node [], Hint.b true])]] (locSt fpF (fpT m f (ii + 1) (gPut x (mCas x.S 0 0 0 hh (hHead sl (IntKind.u64.wrap (hTag hh + 1)))) (rCas x.R 0 0 0 hh (hHead sl (IntKind.u64.wrap (hTag hh + 1)))) j (FO.mk 6 hh nx n sl))) true (fpMb (FO.mk 6 hh nx n sl)) j []) =
 some (Ex.norm, [(0 : Nat) = 0,
 m = m,
 (none : Option Nat) = none,
 (0 : Nat) = 0,
 (0 : Nat) = 0,
 (0 : Nat) = 0,
 x.n = (gPut x (mCas x.S 0 0 0 hh (hHead sl (IntKind.u64.wrap (hTag hh + 1)))) (rCas x.R 0 0 0 hh (hHead sl (IntKind.u64.wrap (hTag hh + 1)))) j (FO.mk 6 hh nx n sl)).n,
 (none : Option Nat) = none,
 IntKind.i64.wrap (Int.ofNat ii + 1) = Int.ofNat (ii + 1),
 (FO.mk 8 hh nx n sl).h = (FO.mk 6 hh nx n sl).h,
 (FO.mk 8 hh nx n sl).sl = (FO.mk 6 hh nx n sl).sl,
 (FO.mk 8 hh nx n sl).sl = (FO.mk 6 hh nx n sl).sl,
 (FO.mk 8 hh nx n sl).h = (FO.mk 6 hh nx n sl).h,
 (FO.mk 8 hh nx n sl).n = (FO.mk 6 hh nx n sl).n,
 false = false,
 (fpT m f (ii + 1) (gPut x (mCas x.S 0 0 0 hh (hHead sl (IntKind.u64.wrap (hTag hh + 1)))) (rCas x.R 0 0 0 hh (hHead sl (IntKind.u64.wrap (hTag hh + 1)))) j (FO.mk 6 hh nx n sl))).n ≤ (fpT m f ii x).n,
 ∀ (i : Nat), i < (fpT m f (ii + 1) (gPut x (mCas x.S 0 0 0 hh (hHead sl (IntKind.u64.wrap (hTag hh + 1)))) (rCas x.R 0 0 0 hh (hHead sl (IntKind.u64.wrap (hTag hh + 1)))) j (FO.mk 6 hh nx n sl))).n → rowV (CM.mk 8 fam0 [(8, Src.nm 8), (9, Src.nm 1022934564967544334379121780258624735067700639388457746713528552530041811376460798401021903851845049109652088789862522190380392670589185329165164872673), (900, Src.nm 900), (901, Src.nm 901)]) fpF.sh 0 (lrow fam0 2 (fpT m f ii x).M j i) (lrow fam0 2 (fpT m f (ii + 1) (gPut x (mCas x.S 0 0 0 hh (hHead sl (IntKind.u64.wrap (hTag hh + 1)))) (rCas x.R 0 0 0 hh (hHead sl (IntKind.u64.wrap (hTag hh + 1)))) j (FO.mk 6 hh nx n sl))).M j i),
 (0 : Nat) = 0,
 (0 : Nat) = 0,
 (0 : Nat) = 0,
 (0 : Nat) = 0,
 true = true,
 (1 : Nat) ≤ (1 : Nat),
 tabF tab = tabF tab ∧ plainSh (List.map kindOfV tab) = true ∨ ∀ (i : Nat), i < 1 → rowOb (List.map kindOfV tab) 0 (tabF tab i) (tabF tab i),
 true = true,
 m ≤ m,
 f = f ∧ plainSh asSh = true ∨ ∀ (i : Nat), i < m → rowOb asSh 0 (f i) (f i),
 (MS.mk (casM x.S.M 0 0 0 (FO.mk 8 hh nx n sl).h (hHead (FO.mk 8 hh nx n sl).sl (IntKind.u64.wrap (hTag (FO.mk 8 hh nx n sl).h + 1)))) (IntKind.i64.wrap (x.S.st + 1)) (LS.mk 3 0 0 0 (mget x.S.M (key 0 0 0)) (casI x.S.M 0 0 0 (FO.mk 8 hh nx n sl).h (hHead (FO.mk 8 hh nx n sl).sl (IntKind.u64.wrap (hTag (FO.mk 8 hh nx n sl).h + 1)))) (casD x.S.M 0 0 0 (FO.mk 8 hh nx n sl).h))).st = (gPut x (mCas x.S 0 0 0 hh (hHead sl (IntKind.u64.wrap (hTag hh + 1)))) (rCas x.R 0 0 0 hh (hHead sl (IntKind.u64.wrap (hTag hh + 1)))) j (FO.mk 6 hh nx n sl)).S.st,
 (3 : Int) = 3,
 (0 : Int) = 0,
 (0 : Int) = 0,
 (0 : Int) = 0,
 (MS.mk (casM x.S.M 0 0 0 (FO.mk 8 hh nx n sl).h (hHead (FO.mk 8 hh nx n sl).sl (IntKind.u64.wrap (hTag (FO.mk 8 hh nx n sl).h + 1)))) (IntKind.i64.wrap (x.S.st + 1)) (LS.mk 3 0 0 0 (mget x.S.M (key 0 0 0)) (casI x.S.M 0 0 0 (FO.mk 8 hh nx n sl).h (hHead (FO.mk 8 hh nx n sl).sl (IntKind.u64.wrap (hTag (FO.mk 8 hh nx n sl).h + 1)))) (casD x.S.M 0 0 0 (FO.mk 8 hh nx n sl).h))).L.w = (gPut x (mCas x.S 0 0 0 hh (hHead sl (IntKind.u64.wrap (hTag hh + 1)))) (rCas x.R 0 0 0 hh (hHead sl (IntKind.u64.wrap (hTag hh + 1)))) j (FO.mk 6 hh nx n sl)).S.L.w,
 (MS.mk (casM x.S.M 0 0 0 (FO.mk 8 hh nx n sl).h (hHead (FO.mk 8 hh nx n sl).sl (IntKind.u64.wrap (hTag (FO.mk 8 hh nx n sl).h + 1)))) (IntKind.i64.wrap (x.S.st + 1)) (LS.mk 3 0 0 0 (mget x.S.M (key 0 0 0)) (casI x.S.M 0 0 0 (FO.mk 8 hh nx n sl).h (hHead (FO.mk 8 hh nx n sl).sl (IntKind.u64.wrap (hTag (FO.mk 8 hh nx n sl).h + 1)))) (casD x.S.M 0 0 0 (FO.mk 8 hh nx n sl).h))).L.i = (gPut x (mCas x.S 0 0 0 hh (hHead sl (IntKind.u64.wrap (hTag hh + 1)))) (rCas x.R 0 0 0 hh (hHead sl (IntKind.u64.wrap (hTag hh + 1)))) j (FO.mk 6 hh nx n sl)).S.L.i,
 (MS.mk (casM x.S.M 0 0 0 (FO.mk 8 hh nx n sl).h (hHead (FO.mk 8 hh nx n sl).sl (IntKind.u64.wrap (hTag (FO.mk 8 hh nx n sl).h + 1)))) (IntKind.i64.wrap (x.S.st + 1)) (LS.mk 3 0 0 0 (mget x.S.M (key 0 0 0)) (casI x.S.M 0 0 0 (FO.mk 8 hh nx n sl).h (hHead (FO.mk 8 hh nx n sl).sl (IntKind.u64.wrap (hTag (FO.mk 8 hh nx n sl).h + 1)))) (casD x.S.M 0 0 0 (FO.mk 8 hh nx n sl).h))).L.d = (gPut x (mCas x.S 0 0 0 hh (hHead sl (IntKind.u64.wrap (hTag hh + 1)))) (rCas x.R 0 0 0 hh (hHead sl (IntKind.u64.wrap (hTag hh + 1)))) j (FO.mk 6 hh nx n sl)).S.L.d,
 ∀ (k : List Int), (MS.mk (casM x.S.M 0 0 0 (FO.mk 8 hh nx n sl).h (hHead (FO.mk 8 hh nx n sl).sl (IntKind.u64.wrap (hTag (FO.mk 8 hh nx n sl).h + 1)))) (IntKind.i64.wrap (x.S.st + 1)) (LS.mk 3 0 0 0 (mget x.S.M (key 0 0 0)) (casI x.S.M 0 0 0 (FO.mk 8 hh nx n sl).h (hHead (FO.mk 8 hh nx n sl).sl (IntKind.u64.wrap (hTag (FO.mk 8 hh nx n sl).h + 1)))) (casD x.S.M 0 0 0 (FO.mk 8 hh nx n sl).h))).M k = (gPut x (mCas x.S 0 0 0 hh (hHead sl (IntKind.u64.wrap (hTag hh + 1)))) (rCas x.R 0 0 0 hh (hHead sl (IntKind.u64.wrap (hTag hh + 1)))) j (FO.mk 6 hh nx n sl)).S.M k,
 (0 : Nat) = 0,
 (dCasM (dOf x.R.D.n (wdF x.R.D.W)) 0 0 0 (FO.mk 8 hh nx n sl).h (hHead (FO.mk 8 hh nx n sl).sl (IntKind.u64.wrap (hTag (FO.mk 8 hh nx n sl).h + 1)))).n = (gPut x (mCas x.S 0 0 0 hh (hHead sl (IntKind.u64.wrap (hTag hh + 1)))) (rCas x.R 0 0 0 hh (hHead sl (IntKind.u64.wrap (hTag hh + 1)))) j (FO.mk 6 hh nx n sl)).R.D.n,
 (none : Option Nat) = none,
 IntKind.i64.wrap (x.R.st + 1) = (gPut x (mCas x.S 0 0 0 hh (hHead sl (IntKind.u64.wrap (hTag hh + 1)))) (rCas x.R 0 0 0 hh (hHead sl (IntKind.u64.wrap (hTag hh + 1)))) j (FO.mk 6 hh nx n sl)).R.st,
 (3 : Int) = 3,
 (0 : Int) = 0,
 (0 : Int) = 0,
 (0 : Int) = 0,
 (LS.mk 3 0 0 0 (dWord (dOf x.R.D.n (wdF x.R.D.W)) 0 0 0) (dWord (dCasM (dOf x.R.D.n (wdF x.R.D.W)) 0 0 0 (FO.mk 8 hh nx n sl).h (hHead (FO.mk 8 hh nx n sl).sl (IntKind.u64.wrap (hTag (FO.mk 8 hh nx n sl).h + 1)))) 0 0 0) (dCasD (dOf x.R.D.n (wdF x.R.D.W)) 0 0 0 (FO.mk 8 hh nx n sl).h)).w = (gPut x (mCas x.S 0 0 0 hh (hHead sl (IntKind.u64.wrap (hTag hh + 1)))) (rCas x.R 0 0 0 hh (hHead sl (IntKind.u64.wrap (hTag hh + 1)))) j (FO.mk 6 hh nx n sl)).R.L.w,
 (LS.mk 3 0 0 0 (dWord (dOf x.R.D.n (wdF x.R.D.W)) 0 0 0) (dWord (dCasM (dOf x.R.D.n (wdF x.R.D.W)) 0 0 0 (FO.mk 8 hh nx n sl).h (hHead (FO.mk 8 hh nx n sl).sl (IntKind.u64.wrap (hTag (FO.mk 8 hh nx n sl).h + 1)))) 0 0 0) (dCasD (dOf x.R.D.n (wdF x.R.D.W)) 0 0 0 (FO.mk 8 hh nx n sl).h)).i = (gPut x (mCas x.S 0 0 0 hh (hHead sl (IntKind.u64.wrap (hTag hh + 1)))) (rCas x.R 0 0 0 hh (hHead sl (IntKind.u64.wrap (hTag hh + 1)))) j (FO.mk 6 hh nx n sl)).R.L.i,
 (LS.mk 3 0 0 0 (dWord (dOf x.R.D.n (wdF x.R.D.W)) 0 0 0) (dWord (dCasM (dOf x.R.D.n (wdF x.R.D.W)) 0 0 0 (FO.mk 8 hh nx n sl).h (hHead (FO.mk 8 hh nx n sl).sl (IntKind.u64.wrap (hTag (FO.mk 8 hh nx n sl).h + 1)))) 0 0 0) (dCasD (dOf x.R.D.n (wdF x.R.D.W)) 0 0 0 (FO.mk 8 hh nx n sl).h)).d = (gPut x (mCas x.S 0 0 0 hh (hHead sl (IntKind.u64.wrap (hTag hh + 1)))) (rCas x.R 0 0 0 hh (hHead sl (IntKind.u64.wrap (hTag hh + 1)))) j (FO.mk 6 hh nx n sl)).R.L.d,
 false = false,
 (gPut x (mCas x.S 0 0 0 hh (hHead sl (IntKind.u64.wrap (hTag hh + 1)))) (rCas x.R 0 0 0 hh (hHead sl (IntKind.u64.wrap (hTag hh + 1)))) j (FO.mk 6 hh nx n sl)).R.D.n ≤ (dCasM (dOf x.R.D.n (wdF x.R.D.W)) 0 0 0 (FO.mk 8 hh nx n sl).h (hHead (FO.mk 8 hh nx n sl).sl (IntKind.u64.wrap (hTag (FO.mk 8 hh nx n sl).h + 1)))).n,
 wdF (gPut x (mCas x.S 0 0 0 hh (hHead sl (IntKind.u64.wrap (hTag hh + 1)))) (rCas x.R 0 0 0 hh (hHead sl (IntKind.u64.wrap (hTag hh + 1)))) j (FO.mk 6 hh nx n sl)).R.D.W = wdF (dCasM (dOf x.R.D.n (wdF x.R.D.W)) 0 0 0 (FO.mk 8 hh nx n sl).h (hHead (FO.mk 8 hh nx n sl).sl (IntKind.u64.wrap (hTag (FO.mk 8 hh nx n sl).h + 1)))).W ∧ plainSh wSh = true ∨ ∀ (i : Nat), i < (gPut x (mCas x.S 0 0 0 hh (hHead sl (IntKind.u64.wrap (hTag hh + 1)))) (rCas x.R 0 0 0 hh (hHead sl (IntKind.u64.wrap (hTag hh + 1)))) j (FO.mk 6 hh nx n sl)).R.D.n → rowOb wSh 0 (wdF (dCasM (dOf x.R.D.n (wdF x.R.D.W)) 0 0 0 (FO.mk 8 hh nx n sl).h (hHead (FO.mk 8 hh nx n sl).sl (IntKind.u64.wrap (hTag (FO.mk 8 hh nx n sl).h + 1)))).W i) (wdF (gPut x (mCas x.S 0 0 0 hh (hHead sl (IntKind.u64.wrap (hTag hh + 1)))) (rCas x.R 0 0 0 hh (hHead sl (IntKind.u64.wrap (hTag hh + 1)))) j (FO.mk 6 hh nx n sl)).R.D.W i),
 Both (MS.mk (casM x.S.M 0 0 0 (FO.mk 8 hh nx n sl).h (hHead (FO.mk 8 hh nx n sl).sl (IntKind.u64.wrap (hTag (FO.mk 8 hh nx n sl).h + 1)))) (IntKind.i64.wrap (x.S.st + 1)) (LS.mk 3 0 0 0 (mget x.S.M (key 0 0 0)) (casI x.S.M 0 0 0 (FO.mk 8 hh nx n sl).h (hHead (FO.mk 8 hh nx n sl).sl (IntKind.u64.wrap (hTag (FO.mk 8 hh nx n sl).h + 1)))) (casD x.S.M 0 0 0 (FO.mk 8 hh nx n sl).h))) (mkR (dCasM (dOf x.R.D.n (wdF x.R.D.W)) 0 0 0 (FO.mk 8 hh nx n sl).h (hHead (FO.mk 8 hh nx n sl).sl (IntKind.u64.wrap (hTag (FO.mk 8 hh nx n sl).h + 1)))).n (wdF (dCasM (dOf x.R.D.n (wdF x.R.D.W)) 0 0 0 (FO.mk 8 hh nx n sl).h (hHead (FO.mk 8 hh nx n sl).sl (IntKind.u64.wrap (hTag (FO.mk 8 hh nx n sl).h + 1)))).W) (IntKind.i64.wrap (x.R.st + 1)) (LS.mk 3 0 0 0 (dWord (dOf x.R.D.n (wdF x.R.D.W)) 0 0 0) (dWord (dCasM (dOf x.R.D.n (wdF x.R.D.W)) 0 0 0 (FO.mk 8 hh nx n sl).h (hHead (FO.mk 8 hh nx n sl).sl (IntKind.u64.wrap (hTag (FO.mk 8 hh nx n sl).h + 1)))) 0 0 0) (dCasD (dOf x.R.D.n (wdF x.R.D.W)) 0 0 0 (FO.mk 8 hh nx n sl).h))),
 (!casD x.S.M 0 0 0 (FO.mk 8 hh nx n sl).h) = true,
 (0 : Int) ≤ (0 : Int),
 TabIs tab (tabF tab),
 0 ≤ IntKind.u64.wrap (hTag (FO.mk 8 hh nx n sl).h + 1),
 IntKind.u64.wrap (hTag (FO.mk 8 hh nx n sl).h + 1) < 18446744073709551616,
 TabIs tab (tabF tab),
 0 ≤ (FO.mk 8 hh nx n sl).h,
 (FO.mk 8 hh nx n sl).h < 18446744073709551616,
 dCasD (dOf x.R.D.n (wdF x.R.D.W)) 0 0 0 (FO.mk 8 hh nx n sl).h = false,
 x.R.D.n ≤ x.R.D.n,
 x.R.D.n ≤ 100000,
 (0 : Int) ≤ (0 : Int),
 0 ≤ IntKind.u64.wrap (hTag (FO.mk 8 hh nx n sl).h + 1),
 IntKind.u64.wrap (hTag (FO.mk 8 hh nx n sl).h + 1) < 18446744073709551616,
 0 ≤ (FO.mk 8 hh nx n sl).h,
 (FO.mk 8 hh nx n sl).h < 18446744073709551616,
 lrow fam0 2 (fpT m f ii x).M j (0 + ((IntKind.u64.wrap (avInt (f (0 + ii) 1))).tmod (IntKind.u64.wrap (Int.ofNat x.n))).toNat) 2 = AV.ptr 901 0 0,
 lrow fam0 2 (fpT m f ii x).M j (0 + ((IntKind.u64.wrap (avInt (f (0 + ii) 1))).tmod (IntKind.u64.wrap (Int.ofNat x.n))).toNat) 1 = AV.ptr 900 0 0,
 lrow fam0 2 (fpT m f ii x).M j (0 + ((IntKind.u64.wrap (avInt (f (0 + ii) 1))).tmod (IntKind.u64.wrap (Int.ofNat x.n))).toNat) 0 = AV.nilp,
 (0 + ((IntKind.u64.wrap (avInt (f (0 + ii) 1))).tmod (IntKind.u64.wrap (Int.ofNat x.n))).toNat).blt (fpT m f ii x).n = true,
 (((IntKind.u64.wrap (avInt (f (0 + ii) 1))).tmod (IntKind.u64.wrap (Int.ofNat x.n))).toNat.blt x.n && decide (0 ≤ (IntKind.u64.wrap (avInt (f (0 + ii) 1))).tmod (IntKind.u64.wrap (Int.ofNat x.n)))) = true,
 decide (IntKind.u64.wrap (Int.ofNat x.n) ≠ 0) = true,
 (Int.ofNat x.n == 0) = false,
 ((avInt (f (0 + ii) 0)).tmod 6 == 2) = false,
 ((avInt (f (0 + ii) 0)).tmod 6 == 1) = false,
 ((avInt (f (0 + ii) 0)).tmod 6 == 0) = false,
 (0 + ii).blt m = true,
 (ii.blt m && decide (0 ≤ Int.ofNat ii)) = true,
 decide (Int.ofNat ii < Int.ofNat m) = true]) := by kernel_rfl
theorem fpe_1 (m : Nat) (f : Nat → Nat → AV) (q : Nat) (h : Nat → Nat → AV) (ii : Nat) (x : GX FO) : roundB Efp 3000 fpL ((fpU m f q h).hp) [(9, Src.nm 9)] (locSt fpF (fpT m f ii x) false (fpMb (x.O x.n)) x.n []) [Hint.b false] (fpX m f x.S x.R) =
 some (Ex.exit 0, [(0 : Nat) = 0,
 m = m,
 (none : Option Nat) = none,
 (0 : Nat) = 0,
 (0 : Nat) = 0,
 (0 : Nat) = 0,
 (0 : Nat) = 0,
 (0 : Nat) = 0,
 (0 : Nat) = 0,
 true = true,
 (1 : Nat) ≤ (1 : Nat),
 tabF tab = tabF tab ∧ plainSh (List.map kindOfV tab) = true ∨ ∀ (i : Nat), i < 1 → rowOb (List.map kindOfV tab) 0 (tabF tab i) (tabF tab i),
 true = true,
 m ≤ m,
 f = f ∧ plainSh asSh = true ∨ ∀ (i : Nat), i < m → rowOb asSh 0 (f i) (f i),
 x.S.st = x.S.st,
 x.S.L.c = x.S.L.c,
 x.S.L.k = x.S.L.k,
 x.S.L.a = x.S.L.a,
 x.S.L.f = x.S.L.f,
 x.S.L.w = x.S.L.w,
 x.S.L.i = x.S.L.i,
 x.S.L.d = x.S.L.d,
 ∀ (k : List Int), x.S.M k = x.S.M k,
 (0 : Nat) = 0,
 x.R.D.n = x.R.D.n,
 (none : Option Nat) = none,
 x.R.st = x.R.st,
 x.R.L.c = x.R.L.c,
 x.R.L.k = x.R.L.k,
 x.R.L.a = x.R.L.a,
 x.R.L.f = x.R.L.f,
 x.R.L.w = x.R.L.w,
 x.R.L.i = x.R.L.i,
 x.R.L.d = x.R.L.d,
 false = false,
 x.R.D.n ≤ x.R.D.n,
 wdF x.R.D.W = wdF x.R.D.W ∧ plainSh wSh = true ∨ ∀ (i : Nat), i < x.R.D.n → rowOb wSh 0 (wdF x.R.D.W i) (wdF x.R.D.W i),
 decide (Int.ofNat ii < Int.ofNat m) = false]) := by kernel_rfl
theorem fpi_1 (m : Nat) (f : Nat → Nat → AV) (q : Nat) (h : Nat → Nat → AV) : castSt (h0F fpF (fpU m f q h)) [(8, Src.nil 3), (9, Src.nm 6)] (fpU m f q h) (locSt fpF (fpT m f 0 (fpN f h q 0)) false (Mb.mk [] []) 0 []) =
 some ([(0 : Nat) = 0,
 m = m,
 (none : Option Nat) = none,
 (0 : Nat) = 0,
 (0 : Nat) = 0,
 (0 : Nat) = 0,
 (0 : Nat) = 0,
 (none : Option Nat) = none,
 (0 : Int) = 0,
 (0 : Nat) = 0,
 (0 : Nat) = 0,
 (0 : Nat) = 0,
 (0 : Nat) = 0,
 (0 : Nat) = 0,
 true = true,
 (1 : Nat) ≤ (1 : Nat),
 tabF tab = tabF tab ∧ plainSh (List.map kindOfV tab) = true ∨ ∀ (i : Nat), i < 1 → rowOb (List.map kindOfV tab) 0 (tabF tab i) (tabF tab i),
 true = true,
 m ≤ m,
 f = f ∧ plainSh asSh = true ∨ ∀ (i : Nat), i < m → rowOb asSh 0 (f i) (f i),
 (msN (bgW h) q).st = (fpN f h q 0).S.st,
 (msN (bgW h) q).L.c = (fpN f h q 0).S.L.c,
 (msN (bgW h) q).L.k = (fpN f h q 0).S.L.k,
 (msN (bgW h) q).L.a = (fpN f h q 0).S.L.a,
 (msN (bgW h) q).L.f = (fpN f h q 0).S.L.f,
 (msN (bgW h) q).L.w = (fpN f h q 0).S.L.w,
 (msN (bgW h) q).L.i = (fpN f h q 0).S.L.i,
 (msN (bgW h) q).L.d = (fpN f h q 0).S.L.d,
 ∀ (k : List Int), (msN (bgW h) q).M k = (fpN f h q 0).S.M k,
 (0 : Nat) = 0,
 (rsN (bgW h) q).D.n = (fpN f h q 0).R.D.n,
 (none : Option Nat) = none,
 (rsN (bgW h) q).st = (fpN f h q 0).R.st,
 (rsN (bgW h) q).L.c = (fpN f h q 0).R.L.c,
 (rsN (bgW h) q).L.k = (fpN f h q 0).R.L.k,
 (rsN (bgW h) q).L.a = (fpN f h q 0).R.L.a,
 (rsN (bgW h) q).L.f = (fpN f h q 0).R.L.f,
 (rsN (bgW h) q).L.w = (fpN f h q 0).R.L.w,
 (rsN (bgW h) q).L.i = (fpN f h q 0).R.L.i,
 (rsN (bgW h) q).L.d = (fpN f h q 0).R.L.d,
 false = false,
 (fpN f h q 0).R.D.n ≤ (rsN (bgW h) q).D.n,
 wdF (fpN f h q 0).R.D.W = wdF (rsN (bgW h) q).D.W ∧ plainSh wSh = true ∨ ∀ (i : Nat), i < (fpN f h q 0).R.D.n → rowOb wSh 0 (wdF (rsN (bgW h) q).D.W i) (wdF (fpN f h q 0).R.D.W i)]) := by kernel_rfl
set_option maxHeartbeats 4000000 in
theorem fp_lp (m : Nat) (f : Nat → Nat → AV) (q : Nat) (h : Nat → Nat → AV) (hm : m ≤ 300) (hq : q ≤ 300) (hr : ∀ i, i < m → 0 ≤ avInt (f i 2) ∧ 0 ≤ avInt (f i 5) ∧ avInt (f i 5) < 18446744073709551616) (hh0 : ∀ i, i < q → 0 ≤ avInt (h i 3) ∧ avInt (h i 3) < 18446744073709551616) : fpLP m f q h := by
  have hU : U64 (msN (bgW h) q) := msN_u q hh0
  refine fam_rule Efp_ok fpFam ⟨by show 8 ≤ 900; omega, rfl, fun n o hg => ltAll_get _ rfl n o hg⟩ (fun z : Nat × GX FO => fpT m f z.1 z.2) (fun z => m - z.1) (fun z => z.1 ≤ m ∧ z.2 = fpN f h q z.1) (fun z hz => ?_) ?_ (fun z hz => ?_)
  · obtain ⟨ii, x⟩ := z
    obtain ⟨h1, h2⟩ := hz
    have h1 : ii ≤ m := h1
    have h2 : x = fpN f h q ii := h2
    have := (fpN_ok (f := f) (h := h) hU ii (fun k hk => (hr k (by omega)).2)).n
    rw [← h2] at this
    exact fpOk (x := x) (by omega)
  ·
    refine ⟨(0, fpN f h q 0), [(8, Src.nil 3), (9, Src.nm 6)], _, ⟨Nat.zero_le _, rfl⟩, (fun k hk => absurd hk (Nat.not_lt_zero k)), fpi_1 .., (ob_cons rfl (ob_cons rfl (ob_cons rfl (ob_cons rfl (ob_cons rfl (ob_cons rfl (ob_cons rfl (ob_cons rfl (ob_cons rfl (ob_cons rfl (ob_cons rfl (ob_cons rfl (ob_cons rfl (ob_cons rfl (ob_cons rfl (ob_cons (Nat.le_refl _) (ob_cons (.inl ⟨rfl, rfl⟩) (ob_cons rfl (ob_cons (Nat.le_refl _) (ob_cons (.inl ⟨rfl, rfl⟩) (ob_cons ?_ (ob_cons ?_ (ob_cons ?_ (ob_cons ?_ (ob_cons ?_ (ob_cons ?_ (ob_cons ?_ (ob_cons ?_ (ob_cons ?_ (ob_cons rfl (ob_cons ?_ (ob_cons rfl (ob_cons ?_ (ob_cons ?_ (ob_cons ?_ (ob_cons ?_ (ob_cons ?_ (ob_cons ?_ (ob_cons ?_ (ob_cons ?_ (ob_cons rfl (ob_cons ?_ (ob_cons ?_ ob_nil)))))))))))))))))))))))))))))))))))))))))))⟩
    · exact rfl
    · exact rfl
    · exact rfl
    · exact rfl
    · exact rfl
    · exact rfl
    · exact rfl
    · exact rfl
    · exact fun _ => rfl
    · exact rfl
    · exact rfl
    · exact rfl
    · exact rfl
    · exact rfl
    · exact rfl
    · exact rfl
    · exact rfl
    · exact rfl
    · exact Nat.le_refl _
    · exact .inl ⟨rfl, rfl⟩
  · obtain ⟨ii, x⟩ := z
    obtain ⟨hi, hx⟩ := hz
    have hi : ii ≤ m := hi
    have hx : x = fpN f h q ii := hx
    have hE := fpN_ok (f := f) (h := h) hU ii (fun k hk => (hr k (by omega)).2)
    rw [← hx] at hE
    by_cases hin : ii < m
    · have hnum := hE.f.fine.num
      have hn := hE.n
      have hb := hE.f.fine.both
      have hu : ∀ k, 0 ≤ mget x.S.M k ∧ mget x.S.M k < 18446744073709551616 := hE.f.u
      have hri := hr ii hin
      have hnble : (0 + x.n).ble (fpT m f ii x).n = true := by rw [Nat.zero_add]; exact Nat.ble_eq_true_of_le (Nat.le_refl x.n)
      have hk2 : 0 ≤ avInt (f (0 + ii) 2) := by rw [Nat.zero_add]; exact hri.1
      have hwi : IntKind.i64.wrap (Int.ofNat ii + 1) = Int.ofNat (ii + 1) := wrap_nat64 _ (by simp; omega) (by simp; omega)
      have hnx : ∀ y, y = fpStep (f (0 + ii)) x → (fun z : Nat × GX FO => z.1 ≤ m ∧ z.2 = fpN f h q z.1) (ii + 1, y) := fun y e => ⟨by show ii + 1 ≤ m; omega, by show y = fpStep (f ii) (fpN f h q ii); rw [e, hx, Nat.zero_add]⟩
      by_cases hk0 : (avInt (f (0 + ii) 0)).tmod 6 = 0
      · have hok := hnx (gAdd x (FO.mk 1 0 0 0 0)) (by unfold fpStep; rw [if_pos hk0])
        have hcl : ((fpT m f (ii + 1) (gAdd x (FO.mk 1 0 0 0 0))).M x.n).cells = (fpMb (FO.mk 1 0 0 0 0)).cells := by show (fpMb (if x.n = x.n then _ else x.O x.n)).cells = _; rw [if_pos rfl]
        have hne : ∀ i, i ≠ x.n → (fpT m f (ii + 1) (gAdd x (FO.mk 1 0 0 0 0))).M i = (fpT m f ii x).M i := fun i hi => by show fpMb (if i = x.n then _ else x.O i) = _; rw [if_neg hi]; rfl
        refine fam_norm (F := fpF) (s0 := fpU m f q h) (X := Nat × GX FO) (T := fun z => fpT m f z.1 z.2) (x := (ii, x)) (ii + 1, gAdd x (FO.mk 1 0 0 0 0)) x.n false true (fa0_1 ..) (ob_cons rfl (ob_cons rfl (ob_cons rfl (ob_cons rfl (ob_cons rfl (ob_cons rfl (ob_cons ?_ (ob_cons rfl (ob_cons ?_ (ob_cons rfl (ob_cons rfl (ob_cons rfl (ob_cons rfl (ob_cons rfl (ob_cons ?_ (ob_cons ?_ (ob_cons rfl (ob_cons rfl (ob_cons rfl (ob_cons rfl (ob_cons rfl (ob_cons (Nat.le_refl _) (ob_cons (.inl ⟨rfl, rfl⟩) (ob_cons rfl (ob_cons (Nat.le_refl _) (ob_cons (.inl ⟨rfl, rfl⟩) (ob_cons ?_ (ob_cons ?_ (ob_cons ?_ (ob_cons ?_ (ob_cons ?_ (ob_cons ?_ (ob_cons ?_ (ob_cons ?_ (ob_cons ?_ (ob_cons rfl (ob_cons ?_ (ob_cons rfl (ob_cons ?_ (ob_cons ?_ (ob_cons ?_ (ob_cons ?_ (ob_cons ?_ (ob_cons ?_ (ob_cons ?_ (ob_cons ?_ (ob_cons rfl (ob_cons ?_ (ob_cons ?_ (ob_cons ?_ (ob_cons ?_ (ob_cons ?_ (ob_cons ?_ (ob_cons ?_ (ob_cons ?_ (ob_cons ?_ ob_nil)))))))))))))))))))))))))))))))))))))))))))))))))))))))) (fun h => by cases h) rfl hok (by show m - (ii + 1) < m - ii; omega) (by show fpMb (if x.n = x.n then _ else _) = _; rw [if_pos rfl]) (.inl ⟨rfl, Nat.lt_succ_self _⟩) (fun i hi hne => ⟨(by have hi : i < x.n + 1 := hi; show i < x.n; omega), (by show fpMb (if i = x.n then _ else _) = fpMb _; rw [if_neg hne])⟩)
        · exact rfl
        · assumption
        · exact Nat.le_refl _
        · exact fg_add (F := fpF) rfl rfl (fun i => fpMb_f _) rfl (M := (fpT m f ii x).M) (fpMb_f _) hcl rfl hne
        · exact rfl
        · exact rfl
        · exact rfl
        · exact rfl
        · exact rfl
        · exact rfl
        · exact rfl
        · exact rfl
        · exact fun _ => rfl
        · exact rfl
        · exact rfl
        · exact rfl
        · exact rfl
        · exact rfl
        · exact rfl
        · exact rfl
        · exact rfl
        · exact rfl
        · exact Nat.le_refl _
        · exact .inl ⟨rfl, rfl⟩
        · assumption
        · (simp [Nat.blt_eq]; omega)
        · assumption
        · assumption
        · (simp [Nat.blt_eq]; omega)
        · (simp [Nat.blt_eq]; omega)
        · (simp [Nat.blt_eq]; omega)
      by_cases hk1 : (avInt (f (0 + ii) 0)).tmod 6 = 1
      · by_cases hw : (avInt (f (0 + ii) 1)) < 0
        · have hw3 : avInt (f ii 1) < 0 := by have h := hw; rwa [Nat.zero_add] at h
          have hok := hnx (gAdd x (FO.mk 5 0 0 0 0)) (by unfold fpStep; rw [if_neg hk0, if_pos hk1]; unfold fpNew; rw [if_pos hw])
          have hcl : ((fpT m f (ii + 1) (gAdd x (FO.mk 5 0 0 0 0))).M x.n).cells = (fpMb (FO.mk 5 0 0 0 0)).cells := by show (fpMb (if x.n = x.n then _ else x.O x.n)).cells = _; rw [if_pos rfl]
          have hne : ∀ i, i ≠ x.n → (fpT m f (ii + 1) (gAdd x (FO.mk 5 0 0 0 0))).M i = (fpT m f ii x).M i := fun i hi => by show fpMb (if i = x.n then _ else x.O i) = _; rw [if_neg hi]; rfl
          refine fam_norm (F := fpF) (s0 := fpU m f q h) (X := Nat × GX FO) (T := fun z => fpT m f z.1 z.2) (x := (ii, x)) (ii + 1, gAdd x (FO.mk 5 0 0 0 0)) x.n false true (fa1_1 ..) (ob_cons rfl (ob_cons rfl (ob_cons rfl (ob_cons rfl (ob_cons rfl (ob_cons rfl (ob_cons ?_ (ob_cons rfl (ob_cons ?_ (ob_cons rfl (ob_cons rfl (ob_cons rfl (ob_cons rfl (ob_cons rfl (ob_cons rfl (ob_cons ?_ (ob_cons ?_ (ob_cons rfl (ob_cons rfl (ob_cons rfl (ob_cons rfl (ob_cons rfl (ob_cons (Nat.le_refl _) (ob_cons (.inl ⟨rfl, rfl⟩) (ob_cons rfl (ob_cons (Nat.le_refl _) (ob_cons (.inl ⟨rfl, rfl⟩) (ob_cons ?_ (ob_cons ?_ (ob_cons ?_ (ob_cons ?_ (ob_cons ?_ (ob_cons ?_ (ob_cons ?_ (ob_cons ?_ (ob_cons ?_ (ob_cons rfl (ob_cons ?_ (ob_cons rfl (ob_cons ?_ (ob_cons ?_ (ob_cons ?_ (ob_cons ?_ (ob_cons ?_ (ob_cons ?_ (ob_cons ?_ (ob_cons ?_ (ob_cons rfl (ob_cons ?_ (ob_cons ?_ (ob_cons ?_ (ob_cons ?_ (ob_cons ?_ (ob_cons ?_ (ob_cons ?_ (ob_cons ?_ (ob_cons ?_ (ob_cons ?_ (ob_cons ?_ ob_nil))))))))))))))))))))))))))))))))))))))))))))))))))))))))))) (fun h => by cases h) rfl hok (by show m - (ii + 1) < m - ii; omega) (by show fpMb (if x.n = x.n then _ else _) = _; rw [if_pos rfl]) (.inl ⟨rfl, Nat.lt_succ_self _⟩) (fun i hi hne => ⟨(by have hi : i < x.n + 1 := hi; show i < x.n; omega), (by show fpMb (if i = x.n then _ else _) = fpMb _; rw [if_neg hne])⟩)
          · exact rfl
          · assumption
          · exact Nat.le_refl _
          · exact fg_add (F := fpF) rfl rfl (fun i => fpMb_f _) rfl (M := (fpT m f ii x).M) (fpMb_f _) hcl rfl hne
          · exact rfl
          · exact rfl
          · exact rfl
          · exact rfl
          · exact rfl
          · exact rfl
          · exact rfl
          · exact rfl
          · exact fun _ => rfl
          · exact rfl
          · exact rfl
          · exact rfl
          · exact rfl
          · exact rfl
          · exact rfl
          · exact rfl
          · exact rfl
          · exact rfl
          · exact Nat.le_refl _
          · exact .inl ⟨rfl, rfl⟩
          · assumption
          · (simp [Nat.blt_eq]; omega)
          · assumption
          · (simp [Nat.blt_eq]; omega)
          · (simp [Nat.blt_eq]; omega)
          · assumption
          · (simp [Nat.blt_eq]; omega)
          · (simp [Nat.blt_eq]; omega)
          · (simp [Nat.blt_eq]; omega)
        have hw3 : ¬ avInt (f ii 1) < 0 := by have h := hw; rwa [Nat.zero_add] at h
        by_cases hw2 : 256 ≤ (avInt (f (0 + ii) 1))
        · have hw4 : 256 ≤ avInt (f ii 1) := by have h := hw2; rwa [Nat.zero_add] at h
          have hok := hnx (gAdd x (FO.mk 5 0 0 0 0)) (by unfold fpStep; rw [if_neg hk0, if_pos hk1]; unfold fpNew; rw [if_neg hw, if_pos hw2])
          have hcl : ((fpT m f (ii + 1) (gAdd x (FO.mk 5 0 0 0 0))).M x.n).cells = (fpMb (FO.mk 5 0 0 0 0)).cells := by show (fpMb (if x.n = x.n then _ else x.O x.n)).cells = _; rw [if_pos rfl]
          have hne : ∀ i, i ≠ x.n → (fpT m f (ii + 1) (gAdd x (FO.mk 5 0 0 0 0))).M i = (fpT m f ii x).M i := fun i hi => by show fpMb (if i = x.n then _ else x.O i) = _; rw [if_neg hi]; rfl
          refine fam_norm (F := fpF) (s0 := fpU m f q h) (X := Nat × GX FO) (T := fun z => fpT m f z.1 z.2) (x := (ii, x)) (ii + 1, gAdd x (FO.mk 5 0 0 0 0)) x.n false true (fa2_1 ..) (ob_cons rfl (ob_cons rfl (ob_cons rfl (ob_cons rfl (ob_cons rfl (ob_cons rfl (ob_cons ?_ (ob_cons rfl (ob_cons ?_ (ob_cons rfl (ob_cons rfl (ob_cons rfl (ob_cons rfl (ob_cons rfl (ob_cons rfl (ob_cons ?_ (ob_cons ?_ (ob_cons rfl (ob_cons rfl (ob_cons rfl (ob_cons rfl (ob_cons rfl (ob_cons (Nat.le_refl _) (ob_cons (.inl ⟨rfl, rfl⟩) (ob_cons rfl (ob_cons (Nat.le_refl _) (ob_cons (.inl ⟨rfl, rfl⟩) (ob_cons ?_ (ob_cons ?_ (ob_cons ?_ (ob_cons ?_ (ob_cons ?_ (ob_cons ?_ (ob_cons ?_ (ob_cons ?_ (ob_cons ?_ (ob_cons rfl (ob_cons ?_ (ob_cons rfl (ob_cons ?_ (ob_cons ?_ (ob_cons ?_ (ob_cons ?_ (ob_cons ?_ (ob_cons ?_ (ob_cons ?_ (ob_cons ?_ (ob_cons rfl (ob_cons ?_ (ob_cons ?_ (ob_cons ?_ (ob_cons ?_ (ob_cons ?_ (ob_cons ?_ (ob_cons ?_ (ob_cons ?_ (ob_cons ?_ (ob_cons ?_ (ob_cons ?_ (ob_cons ?_ (ob_cons ?_ ob_nil))))))))))))))))))))))))))))))))))))))))))))))))))))))))))))) (fun h => by cases h) rfl hok (by show m - (ii + 1) < m - ii; omega) (by show fpMb (if x.n = x.n then _ else _) = _; rw [if_pos rfl]) (.inl ⟨rfl, Nat.lt_succ_self _⟩) (fun i hi hne => ⟨(by have hi : i < x.n + 1 := hi; show i < x.n; omega), (by show fpMb (if i = x.n then _ else _) = fpMb _; rw [if_neg hne])⟩)
          · exact rfl
          · assumption
          · exact Nat.le_refl _
          · exact fg_add (F := fpF) rfl rfl (fun i => fpMb_f _) rfl (M := (fpT m f ii x).M) (fpMb_f _) hcl rfl hne
          · exact rfl
          · exact rfl
          · exact rfl
          · exact rfl
          · exact rfl
          · exact rfl
          · exact rfl
          · exact rfl
          · exact fun _ => rfl
          · exact rfl
          · exact rfl
          · exact rfl
          · exact rfl
          · exact rfl
          · exact rfl
          · exact rfl
          · exact rfl
          · exact rfl
          · exact Nat.le_refl _
          · exact .inl ⟨rfl, rfl⟩
          · assumption
          · (simp [Nat.blt_eq]; omega)
          · assumption
          · (simp [Nat.blt_eq]; omega)
          · (simp [Nat.blt_eq]; omega)
          · (simp [Nat.blt_eq]; omega)
          · (simp [Nat.blt_eq]; omega)
          · assumption
          · (simp [Nat.blt_eq]; omega)
          · (simp [Nat.blt_eq]; omega)
          · (simp [Nat.blt_eq]; omega)
        have hw4 : ¬ 256 ≤ avInt (f ii 1) := by have h := hw2; rwa [Nat.zero_add] at h
        have hok := hnx (gAdd x (FO.mk 6 0 0 0 (avInt (f (0 + ii) 1)))) (by unfold fpStep; rw [if_neg hk0, if_pos hk1]; unfold fpNew; rw [if_neg hw, if_neg hw2])
        have hcl : ((fpT m f (ii + 1) (gAdd x (FO.mk 6 0 0 0 (avInt (f (0 + ii) 1))))).M x.n).cells = (fpMb (FO.mk 6 0 0 0 (avInt (f (0 + ii) 1)))).cells := by show (fpMb (if x.n = x.n then _ else x.O x.n)).cells = _; rw [if_pos rfl]
        have hne : ∀ i, i ≠ x.n → (fpT m f (ii + 1) (gAdd x (FO.mk 6 0 0 0 (avInt (f (0 + ii) 1))))).M i = (fpT m f ii x).M i := fun i hi => by show fpMb (if i = x.n then _ else x.O i) = _; rw [if_neg hi]; rfl
        refine fam_norm (F := fpF) (s0 := fpU m f q h) (X := Nat × GX FO) (T := fun z => fpT m f z.1 z.2) (x := (ii, x)) (ii + 1, gAdd x (FO.mk 6 0 0 0 (avInt (f (0 + ii) 1)))) x.n false true (fa3_1 ..) (ob_cons rfl (ob_cons rfl (ob_cons rfl (ob_cons rfl (ob_cons rfl (ob_cons rfl (ob_cons ?_ (ob_cons rfl (ob_cons ?_ (ob_cons rfl (ob_cons ?_ (ob_cons ?_ (ob_cons rfl (ob_cons rfl (ob_cons rfl (ob_cons ?_ (ob_cons ?_ (ob_cons rfl (ob_cons rfl (ob_cons rfl (ob_cons rfl (ob_cons rfl (ob_cons (Nat.le_refl _) (ob_cons (.inl ⟨rfl, rfl⟩) (ob_cons rfl (ob_cons (Nat.le_refl _) (ob_cons (.inl ⟨rfl, rfl⟩) (ob_cons ?_ (ob_cons ?_ (ob_cons ?_ (ob_cons ?_ (ob_cons ?_ (ob_cons ?_ (ob_cons ?_ (ob_cons ?_ (ob_cons ?_ (ob_cons rfl (ob_cons ?_ (ob_cons rfl (ob_cons ?_ (ob_cons ?_ (ob_cons ?_ (ob_cons ?_ (ob_cons ?_ (ob_cons ?_ (ob_cons ?_ (ob_cons ?_ (ob_cons rfl (ob_cons ?_ (ob_cons ?_ (ob_cons ?_ (ob_cons ?_ (ob_cons ?_ (ob_cons ?_ (ob_cons ?_ (ob_cons ?_ (ob_cons ?_ (ob_cons ?_ (ob_cons ?_ (ob_cons ?_ (ob_cons ?_ ob_nil))))))))))))))))))))))))))))))))))))))))))))))))))))))))))))) (fun h => by cases h) rfl hok (by show m - (ii + 1) < m - ii; omega) (by show fpMb (if x.n = x.n then _ else _) = _; rw [if_pos rfl]) (.inl ⟨rfl, Nat.lt_succ_self _⟩) (fun i hi hne => ⟨(by have hi : i < x.n + 1 := hi; show i < x.n; omega), (by show fpMb (if i = x.n then _ else _) = fpMb _; rw [if_neg hne])⟩)
        · exact rfl
        · assumption
        · exact rfl
        · exact rfl
        · exact Nat.le_refl _
        · exact fg_add (F := fpF) rfl rfl (fun i => fpMb_f _) rfl (M := (fpT m f ii x).M) (fpMb_f _) hcl rfl hne
        · exact rfl
        · exact rfl
        · exact rfl
        · exact rfl
        · exact rfl
        · exact rfl
        · exact rfl
        · exact rfl
        · exact fun _ => rfl
        · exact rfl
        · exact rfl
        · exact rfl
        · exact rfl
        · exact rfl
        · exact rfl
        · exact rfl
        · exact rfl
        · exact rfl
        · exact Nat.le_refl _
        · exact .inl ⟨rfl, rfl⟩
        · assumption
        · (simp [Nat.blt_eq]; omega)
        · assumption
        · (simp [Nat.blt_eq]; omega)
        · (simp [Nat.blt_eq]; omega)
        · (simp [Nat.blt_eq]; omega)
        · (simp [Nat.blt_eq]; omega)
        · assumption
        · (simp [Nat.blt_eq]; omega)
        · (simp [Nat.blt_eq]; omega)
        · (simp [Nat.blt_eq]; omega)
      by_cases hk2n : (avInt (f (0 + ii) 0)).tmod 6 = 2
      · have hok := hnx (gSto x (avInt (f (0 + ii) 2)) (avInt (f (0 + ii) 3)) (avInt (f (0 + ii) 4)) (avInt (f (0 + ii) 5))) (by unfold fpStep; rw [if_neg hk0, if_neg hk1, if_pos hk2n])
        have hbS := hb.store (avInt (f (0 + ii) 2)) (avInt (f (0 + ii) 3)) (avInt (f (0 + ii) 4)) (avInt (f (0 + ii) 5))
        refine fam_norm (F := fpF) (s0 := fpU m f q h) (X := Nat × GX FO) (T := fun z => fpT m f z.1 z.2) (x := (ii, x)) (ii + 1, (gSto x (avInt (f (0 + ii) 2)) (avInt (f (0 + ii) 3)) (avInt (f (0 + ii) 4)) (avInt (f (0 + ii) 5)))) x.n false false (fs0_1 ..) (ob_cons rfl (ob_cons rfl (ob_cons rfl (ob_cons rfl (ob_cons rfl (ob_cons rfl (ob_cons ?_ (ob_cons rfl (ob_cons ?_ (ob_cons rfl (ob_cons ?_ (ob_cons ?_ (ob_cons rfl (ob_cons rfl (ob_cons rfl (ob_cons rfl (ob_cons rfl (ob_cons (Nat.le_refl _) (ob_cons (.inl ⟨rfl, rfl⟩) (ob_cons rfl (ob_cons (Nat.le_refl _) (ob_cons (.inl ⟨rfl, rfl⟩) (ob_cons ?_ (ob_cons rfl (ob_cons ?_ (ob_cons ?_ (ob_cons ?_ (ob_cons ?_ (ob_cons ?_ (ob_cons ?_ (ob_cons ?_ (ob_cons rfl (ob_cons ?_ (ob_cons rfl (ob_cons ?_ (ob_cons rfl (ob_cons ?_ (ob_cons ?_ (ob_cons ?_ (ob_cons ?_ (ob_cons ?_ (ob_cons ?_ (ob_cons rfl (ob_cons ?_ (ob_cons ?_ (ob_cons ?_ (ob_cons (Nat.le_refl _) (ob_cons ?_ (ob_cons ?_ (ob_cons ?_ (ob_cons ?_ (ob_cons ?_ (ob_cons ?_ (ob_cons ?_ (ob_cons ?_ ob_nil))))))))))))))))))))))))))))))))))))))))))))))))))))))) (fun h => by cases h) rfl hok (by show m - (ii + 1) < m - ii; omega) rfl (.inr ⟨rfl, Nat.le_refl _⟩) (fun i hi hne => ⟨hi, rfl⟩)
        · exact rfl
        · assumption
        · exact Nat.le_refl _
        · exact fg_no (F := fpF) rfl rfl (fun i => fpMb_f _) rfl (M := (fpT m f ii x).M) (Nat.le_refl _) (fun _ => rfl)
        · exact rfl
        · exact rfl
        · exact rfl
        · exact rfl
        · exact rfl
        · exact rfl
        · exact rfl
        · exact fun _ => rfl
        · exact rfl
        · exact rfl
        · exact rfl
        · exact rfl
        · exact rfl
        · exact rfl
        · exact rfl
        · exact rfl
        · exact Nat.le_refl _
        · exact .inl ⟨rfl, rfl⟩
        · assumption
        · (simp [Nat.blt_eq]; omega)
        · assumption
        · exact eqT hk2n
        · exact eqF hk1
        · exact eqF hk0
        · (simp [Nat.blt_eq]; omega)
        · (simp [Nat.blt_eq]; omega)
        · (simp [Nat.blt_eq]; omega)
      by_cases hn0 : x.n = 0
      · have hok := hnx x (by unfold fpStep; rw [if_neg hk0, if_neg hk1, if_neg hk2n, if_pos hn0])
        refine fam_norm (F := fpF) (s0 := fpU m f q h) (X := Nat × GX FO) (T := fun z => fpT m f z.1 z.2) (x := (ii, x)) (ii + 1, x) x.n false false (fs1_1 ..) (ob_cons rfl (ob_cons rfl (ob_cons rfl (ob_cons rfl (ob_cons rfl (ob_cons rfl (ob_cons rfl (ob_cons rfl (ob_cons ?_ (ob_cons rfl (ob_cons ?_ (ob_cons ?_ (ob_cons rfl (ob_cons rfl (ob_cons rfl (ob_cons rfl (ob_cons rfl (ob_cons (Nat.le_refl _) (ob_cons (.inl ⟨rfl, rfl⟩) (ob_cons rfl (ob_cons (Nat.le_refl _) (ob_cons (.inl ⟨rfl, rfl⟩) (ob_cons rfl (ob_cons rfl (ob_cons rfl (ob_cons rfl (ob_cons rfl (ob_cons rfl (ob_cons rfl (ob_cons rfl (ob_cons (fun _ => rfl) (ob_cons rfl (ob_cons rfl (ob_cons rfl (ob_cons rfl (ob_cons rfl (ob_cons rfl (ob_cons rfl (ob_cons rfl (ob_cons rfl (ob_cons rfl (ob_cons rfl (ob_cons rfl (ob_cons (Nat.le_refl _) (ob_cons (.inl ⟨rfl, rfl⟩) (ob_cons ?_ (ob_cons ?_ (ob_cons ?_ (ob_cons ?_ (ob_cons ?_ (ob_cons ?_ (ob_cons ?_ ob_nil)))))))))))))))))))))))))))))))))))))))))))))))))))) (fun h => by cases h) rfl hok (by show m - (ii + 1) < m - ii; omega) rfl (.inr ⟨rfl, Nat.le_refl _⟩) (fun i hi hne => ⟨hi, rfl⟩)
        · assumption
        · exact Nat.le_refl _
        · exact fg_no (F := fpF) rfl rfl (fun i => fpMb_f _) rfl (M := (fpT m f ii x).M) (Nat.le_refl _) (fun _ => rfl)
        · (simp [Nat.blt_eq]; omega)
        · exact eqF hk2n
        · exact eqF hk1
        · exact eqF hk0
        · (simp [Nat.blt_eq]; omega)
        · (simp [Nat.blt_eq]; omega)
        · (simp [Nat.blt_eq]; omega)
      have hjx := jX_lt (f (0 + ii)) hn0 (by omega)
      generalize hj : jX (f (0 + ii)) x.n = j at hjx
      obtain ⟨hjn, hjr⟩ := hjx
      have hgo : fpStep (f (0 + ii)) x = fpDo x j (x.O j) := by unfold fpStep; rw [if_neg hk0, if_neg hk1, if_neg hk2n, if_neg hn0, hj]
      have hok0 := hnx (fpDo x j (x.O j)) hgo.symm
      have hjb : (0 + ((IntKind.u64.wrap (avInt (f (0 + ii) 1))).tmod (IntKind.u64.wrap (Int.ofNat x.n))).toNat).blt (fpT m f ii x).n = true := by
        rw [Nat.zero_add, show ((IntKind.u64.wrap (avInt (f (0 + ii) 1))).tmod (IntKind.u64.wrap (Int.ofNat x.n))).toNat = j from hj]; exact (by simpa [Nat.blt_eq] using hjn : Nat.blt j x.n = true)
      have hjb2 : (((IntKind.u64.wrap (avInt (f (0 + ii) 1))).tmod (IntKind.u64.wrap (Int.ofNat x.n))).toNat.blt x.n && decide (0 ≤ ((IntKind.u64.wrap (avInt (f (0 + ii) 1))).tmod (IntKind.u64.wrap (Int.ofNat x.n))))) = true := by
        rw [show ((IntKind.u64.wrap (avInt (f (0 + ii) 1))).tmod (IntKind.u64.wrap (Int.ofNat x.n))).toNat = j from hj, Bool.and_eq_true]
        exact ⟨by simpa [Nat.blt_eq] using hjn, decide_eq_true hjr⟩
      have hnw : decide (IntKind.u64.wrap (Int.ofNat x.n) ≠ 0) = true := by
        rw [u64w (by simp) (by simp; omega)]
        exact decide_eq_true (by simp; omega)
      have hl : ∀ c, lrow fpF.b0 2 (fpT m f ii x).M j (0 + ((IntKind.u64.wrap (avInt (f (0 + ii) 1))).tmod (IntKind.u64.wrap (Int.ofNat x.n))).toNat) c = mrow 2 900 (fpMb (x.O j)) c := fun c => by
        rw [Nat.zero_add, show ((IntKind.u64.wrap (avInt (f (0 + ii) 1))).tmod (IntKind.u64.wrap (Int.ofNat x.n))).toNat = j from hj]
        exact lrow_j rfl
      have hoo := hE.o j
      have hbS := (fo_mem hE.f (x.O j)).fine.both
      generalize ho : x.O j = oj at hl hoo hok0 hbS hgo
      obtain ⟨t, hh, nx, n, sl⟩ := oj
      match t, ho, hl, hoo, hok0, hbS, hgo with
      | 0, ho, hl, hoo, hok0, hbS, hgo =>
        obtain ⟨-, hoh, hon⟩ := hoo
        have q0 : lrow fam0 2 (fpT m f ii x).M j (0 + ((IntKind.u64.wrap (avInt (f (0 + ii) 1))).tmod (IntKind.u64.wrap (Int.ofNat x.n))).toNat) 0 = AV.ptr 900 0 0 := (hl 0).trans rfl
        have q1 : lrow fam0 2 (fpT m f ii x).M j (0 + ((IntKind.u64.wrap (avInt (f (0 + ii) 1))).tmod (IntKind.u64.wrap (Int.ofNat x.n))).toNat) 1 = AV.nilp := (hl 1).trans rfl
        have q2 : lrow fam0 2 (fpT m f ii x).M j (0 + ((IntKind.u64.wrap (avInt (f (0 + ii) 1))).tmod (IntKind.u64.wrap (Int.ofNat x.n))).toNat) 2 = AV.ptr 901 0 0 := (hl 2).trans rfl
        clear hl
        have hok := hnx (gPut x x.S x.R j (FO.mk 0 hh nx n sl)) (by rw [hgo]; unfold fpDo foO foS foR; (try simp only []); (try rfl))
        have hcl : ((fpT m f (ii + 1) (gPut x x.S x.R j (FO.mk 0 hh nx n sl))).M j).cells = ((fpT m f ii x).M j).cells := by show (fpMb (if j = j then (FO.mk 0 hh nx n sl) else x.O j)).cells = (fpMb (x.O j)).cells; rw [if_pos rfl, ho]; (try rfl)
        have hne : ∀ i, i ≠ j → (fpT m f (ii + 1) (gPut x x.S x.R j (FO.mk 0 hh nx n sl))).M i = (fpT m f ii x).M i := fun i hi => by show fpMb (if i = j then _ else x.O i) = _; rw [if_neg hi]; rfl
        refine fam_norm (F := fpF) (s0 := fpU m f q h) (X := Nat × GX FO) (T := fun z => fpT m f z.1 z.2) (x := (ii, x)) (ii + 1, (gPut x x.S x.R j (FO.mk 0 hh nx n sl))) j true true (f0_1 ..) (ob_cons rfl (ob_cons rfl (ob_cons rfl (ob_cons rfl (ob_cons rfl (ob_cons rfl (ob_cons ?_ (ob_cons rfl (ob_cons ?_ (ob_cons rfl (ob_cons rfl (ob_cons rfl (ob_cons rfl (ob_cons rfl (ob_cons ?_ (ob_cons ?_ (ob_cons rfl (ob_cons rfl (ob_cons rfl (ob_cons rfl (ob_cons rfl (ob_cons (Nat.le_refl _) (ob_cons (.inl ⟨rfl, rfl⟩) (ob_cons rfl (ob_cons (Nat.le_refl _) (ob_cons (.inl ⟨rfl, rfl⟩) (ob_cons ?_ (ob_cons ?_ (ob_cons ?_ (ob_cons ?_ (ob_cons ?_ (ob_cons ?_ (ob_cons ?_ (ob_cons ?_ (ob_cons ?_ (ob_cons rfl (ob_cons ?_ (ob_cons rfl (ob_cons ?_ (ob_cons ?_ (ob_cons ?_ (ob_cons ?_ (ob_cons ?_ (ob_cons ?_ (ob_cons ?_ (ob_cons ?_ (ob_cons rfl (ob_cons ?_ (ob_cons ?_ (ob_cons ?_ (ob_cons ?_ (ob_cons ?_ (ob_cons ?_ (ob_cons ?_ (ob_cons ?_ (ob_cons ?_ (ob_cons ?_ (ob_cons ?_ (ob_cons ?_ (ob_cons ?_ (ob_cons ?_ (ob_cons ?_ (ob_cons ?_ (ob_cons ?_ (ob_cons ?_ ob_nil))))))))))))))))))))))))))))))))))))))))))))))))))))))))))))))))) (fun _ => hjn) (by show fpMb (x.O j) = _; rw [ho]) hok (by show m - (ii + 1) < m - ii; omega) (by show fpMb (if j = j then _ else _) = _; rw [if_pos rfl]) (.inl ⟨rfl, hjn⟩) (fun i hi hne => ⟨hi, (by show fpMb (if i = j then _ else _) = fpMb _; rw [if_neg hne])⟩)
        · exact rfl
        · assumption
        · exact Nat.le_refl _
        · exact fg_do (F := fpF) rfl rfl (fun i => fpMb_f _) rfl (M := (fpT m f ii x).M) (j := j) hcl hne rfl
        · exact rfl
        · exact rfl
        · exact rfl
        · exact rfl
        · exact rfl
        · exact rfl
        · exact rfl
        · exact rfl
        · exact fun _ => rfl
        · exact rfl
        · exact rfl
        · exact rfl
        · exact rfl
        · exact rfl
        · exact rfl
        · exact rfl
        · exact rfl
        · exact rfl
        · exact Nat.le_refl _
        · exact .inl ⟨rfl, rfl⟩
        · assumption
        · omega
        · omega
        · assumption
        · assumption
        · assumption
        · assumption
        · assumption
        · assumption
        · (simp [Nat.blt_eq]; omega)
        · exact eqF hk2n
        · exact eqF hk1
        · exact eqF hk0
        · (simp [Nat.blt_eq]; omega)
        · (simp [Nat.blt_eq]; omega)
        · (simp [Nat.blt_eq]; omega)
      | 1, ho, hl, hoo, hok0, hbS, hgo =>
        obtain ⟨-, hoh, hon⟩ := hoo
        have q0 : lrow fam0 2 (fpT m f ii x).M j (0 + ((IntKind.u64.wrap (avInt (f (0 + ii) 1))).tmod (IntKind.u64.wrap (Int.ofNat x.n))).toNat) 0 = AV.ptr 900 0 0 := (hl 0).trans rfl
        have q1 : lrow fam0 2 (fpT m f ii x).M j (0 + ((IntKind.u64.wrap (avInt (f (0 + ii) 1))).tmod (IntKind.u64.wrap (Int.ofNat x.n))).toNat) 1 = AV.nilp := (hl 1).trans rfl
        have q2 : lrow fam0 2 (fpT m f ii x).M j (0 + ((IntKind.u64.wrap (avInt (f (0 + ii) 1))).tmod (IntKind.u64.wrap (Int.ofNat x.n))).toNat) 2 = AV.ptr 901 0 0 := (hl 2).trans rfl
        clear hl
        have hwd : dWord (dOf x.R.D.n (wdF x.R.D.W)) 0 0 0 = (mget x.S.M (key 0 0 0)) := (hb.agr _ _ _).symm
        by_cases hs : hSlot (mget x.S.M (key 0 0 0)) < 0
        ·
          have hok := hnx (gPut x (mLoad x.S 0 0 0) (rLoad x.R 0 0 0) j (FO.mk 0 (mget x.S.M (key 0 0 0)) nx n sl)) (by rw [hgo]; unfold fpDo foO foS foR; (try simp only []); rw [show foM x.S ⟨1, hh, nx, n, sl⟩ = mget x.S.M (key 0 0 0) from rfl, if_pos hs]; (try rfl))
          have hcl : ((fpT m f (ii + 1) (gPut x (mLoad x.S 0 0 0) (rLoad x.R 0 0 0) j (FO.mk 0 (mget x.S.M (key 0 0 0)) nx n sl))).M j).cells = ((fpT m f ii x).M j).cells := by show (fpMb (if j = j then (FO.mk 0 (mget x.S.M (key 0 0 0)) nx n sl) else x.O j)).cells = (fpMb (x.O j)).cells; rw [if_pos rfl, ho]; (try rfl)
          have hne : ∀ i, i ≠ j → (fpT m f (ii + 1) (gPut x (mLoad x.S 0 0 0) (rLoad x.R 0 0 0) j (FO.mk 0 (mget x.S.M (key 0 0 0)) nx n sl))).M i = (fpT m f ii x).M i := fun i hi => by show fpMb (if i = j then _ else x.O i) = _; rw [if_neg hi]; rfl
          refine fam_norm (F := fpF) (s0 := fpU m f q h) (X := Nat × GX FO) (T := fun z => fpT m f z.1 z.2) (x := (ii, x)) (ii + 1, (gPut x (mLoad x.S 0 0 0) (rLoad x.R 0 0 0) j (FO.mk 0 (mget x.S.M (key 0 0 0)) nx n sl))) j true true (f1a_1 ..) (ob_cons rfl (ob_cons rfl (ob_cons rfl (ob_cons rfl (ob_cons rfl (ob_cons rfl (ob_cons ?_ (ob_cons rfl (ob_cons ?_ (ob_cons ?_ (ob_cons ?_ (ob_cons ?_ (ob_cons ?_ (ob_cons rfl (ob_cons ?_ (ob_cons ?_ (ob_cons rfl (ob_cons rfl (ob_cons rfl (ob_cons rfl (ob_cons rfl (ob_cons (Nat.le_refl _) (ob_cons (.inl ⟨rfl, rfl⟩) (ob_cons rfl (ob_cons (Nat.le_refl _) (ob_cons (.inl ⟨rfl, rfl⟩) (ob_cons ?_ (ob_cons rfl (ob_cons rfl (ob_cons rfl (ob_cons rfl (ob_cons ?_ (ob_cons ?_ (ob_cons ?_ (ob_cons ?_ (ob_cons rfl (ob_cons ?_ (ob_cons rfl (ob_cons ?_ (ob_cons rfl (ob_cons rfl (ob_cons rfl (ob_cons rfl (ob_cons ?_ (ob_cons ?_ (ob_cons ?_ (ob_cons rfl (ob_cons ?_ (ob_cons ?_ (ob_cons ?_ (ob_cons ?_ (ob_cons (tabIs_self _) (ob_cons ?_ (ob_cons ?_ (ob_cons ?_ (ob_cons ?_ (ob_cons ?_ (ob_cons (Nat.le_refl _) (ob_cons ?_ (ob_cons ?_ (ob_cons ?_ (ob_cons ?_ (ob_cons ?_ (ob_cons ?_ (ob_cons ?_ (ob_cons ?_ (ob_cons ?_ (ob_cons ?_ (ob_cons ?_ (ob_cons ?_ (ob_cons ?_ (ob_cons ?_ (ob_cons ?_ (ob_cons ?_ ob_nil)))))))))))))))))))))))))))))))))))))))))))))))))))))))))))))))))))))))))) (fun _ => hjn) (by show fpMb (x.O j) = _; rw [ho]) hok (by show m - (ii + 1) < m - ii; omega) (by show fpMb (if j = j then _ else _) = _; rw [if_pos rfl]) (.inl ⟨rfl, hjn⟩) (fun i hi hne => ⟨hi, (by show fpMb (if i = j then _ else _) = fpMb _; rw [if_neg hne])⟩)
          · exact rfl
          · assumption
          · exact rfl
          · exact rfl
          · assumption
          · exact rfl
          · exact Nat.le_refl _
          · exact fg_do (F := fpF) rfl rfl (fun i => fpMb_f _) rfl (M := (fpT m f ii x).M) (j := j) hcl hne rfl
          · exact rfl
          · exact rfl
          · exact rfl
          · exact rfl
          · exact fun _ => rfl
          · exact rfl
          · exact rfl
          · exact rfl
          · exact rfl
          · exact rfl
          · exact Nat.le_refl _
          · exact .inl ⟨rfl, rfl⟩
          · assumption
          · exact decide_eq_true hs
          · exact (hu _).1
          · exact (hu _).2
          · (rw [hwd]; exact decide_eq_true hs)
          · (rw [hwd]; exact (hu _).1)
          · (rw [hwd]; exact (hu _).2)
          · (simp [Nat.blt_eq]; omega)
          · omega
          · omega
          · assumption
          · assumption
          · assumption
          · assumption
          · assumption
          · assumption
          · (simp [Nat.blt_eq]; omega)
          · exact eqF hk2n
          · exact eqF hk1
          · exact eqF hk0
          · (simp [Nat.blt_eq]; omega)
          · (simp [Nat.blt_eq]; omega)
          · (simp [Nat.blt_eq]; omega)
        ·
          have hok := hnx (gPut x (mLoad x.S 0 0 0) (rLoad x.R 0 0 0) j (FO.mk 2 (mget x.S.M (key 0 0 0)) nx n sl)) (by rw [hgo]; unfold fpDo foO foS foR; (try simp only []); rw [show foM x.S ⟨1, hh, nx, n, sl⟩ = mget x.S.M (key 0 0 0) from rfl, if_neg hs]; (try rfl))
          have hcl : ((fpT m f (ii + 1) (gPut x (mLoad x.S 0 0 0) (rLoad x.R 0 0 0) j (FO.mk 2 (mget x.S.M (key 0 0 0)) nx n sl))).M j).cells = ((fpT m f ii x).M j).cells := by show (fpMb (if j = j then (FO.mk 2 (mget x.S.M (key 0 0 0)) nx n sl) else x.O j)).cells = (fpMb (x.O j)).cells; rw [if_pos rfl, ho]; (try rfl)
          have hne : ∀ i, i ≠ j → (fpT m f (ii + 1) (gPut x (mLoad x.S 0 0 0) (rLoad x.R 0 0 0) j (FO.mk 2 (mget x.S.M (key 0 0 0)) nx n sl))).M i = (fpT m f ii x).M i := fun i hi => by show fpMb (if i = j then _ else x.O i) = _; rw [if_neg hi]; rfl
          refine fam_norm (F := fpF) (s0 := fpU m f q h) (X := Nat × GX FO) (T := fun z => fpT m f z.1 z.2) (x := (ii, x)) (ii + 1, (gPut x (mLoad x.S 0 0 0) (rLoad x.R 0 0 0) j (FO.mk 2 (mget x.S.M (key 0 0 0)) nx n sl))) j true true (f1b_1 ..) (ob_cons rfl (ob_cons rfl (ob_cons rfl (ob_cons rfl (ob_cons rfl (ob_cons rfl (ob_cons ?_ (ob_cons rfl (ob_cons ?_ (ob_cons ?_ (ob_cons ?_ (ob_cons ?_ (ob_cons ?_ (ob_cons rfl (ob_cons ?_ (ob_cons ?_ (ob_cons rfl (ob_cons rfl (ob_cons rfl (ob_cons rfl (ob_cons rfl (ob_cons (Nat.le_refl _) (ob_cons (.inl ⟨rfl, rfl⟩) (ob_cons rfl (ob_cons (Nat.le_refl _) (ob_cons (.inl ⟨rfl, rfl⟩) (ob_cons ?_ (ob_cons rfl (ob_cons rfl (ob_cons rfl (ob_cons rfl (ob_cons ?_ (ob_cons ?_ (ob_cons ?_ (ob_cons ?_ (ob_cons rfl (ob_cons ?_ (ob_cons rfl (ob_cons ?_ (ob_cons rfl (ob_cons rfl (ob_cons rfl (ob_cons rfl (ob_cons ?_ (ob_cons ?_ (ob_cons ?_ (ob_cons rfl (ob_cons ?_ (ob_cons ?_ (ob_cons ?_ (ob_cons ?_ (ob_cons (tabIs_self _) (ob_cons ?_ (ob_cons ?_ (ob_cons ?_ (ob_cons ?_ (ob_cons ?_ (ob_cons (Nat.le_refl _) (ob_cons ?_ (ob_cons ?_ (ob_cons ?_ (ob_cons ?_ (ob_cons ?_ (ob_cons ?_ (ob_cons ?_ (ob_cons ?_ (ob_cons ?_ (ob_cons ?_ (ob_cons ?_ (ob_cons ?_ (ob_cons ?_ (ob_cons ?_ (ob_cons ?_ (ob_cons ?_ ob_nil)))))))))))))))))))))))))))))))))))))))))))))))))))))))))))))))))))))))))) (fun _ => hjn) (by show fpMb (x.O j) = _; rw [ho]) hok (by show m - (ii + 1) < m - ii; omega) (by show fpMb (if j = j then _ else _) = _; rw [if_pos rfl]) (.inl ⟨rfl, hjn⟩) (fun i hi hne => ⟨hi, (by show fpMb (if i = j then _ else _) = fpMb _; rw [if_neg hne])⟩)
          · exact rfl
          · assumption
          · exact rfl
          · exact rfl
          · assumption
          · exact rfl
          · exact Nat.le_refl _
          · exact fg_do (F := fpF) rfl rfl (fun i => fpMb_f _) rfl (M := (fpT m f ii x).M) (j := j) hcl hne rfl
          · exact rfl
          · exact rfl
          · exact rfl
          · exact rfl
          · exact fun _ => rfl
          · exact rfl
          · exact rfl
          · exact rfl
          · exact rfl
          · exact rfl
          · exact Nat.le_refl _
          · exact .inl ⟨rfl, rfl⟩
          · assumption
          · exact decide_eq_false hs
          · exact (hu _).1
          · exact (hu _).2
          · (rw [hwd]; exact decide_eq_false hs)
          · (rw [hwd]; exact (hu _).1)
          · (rw [hwd]; exact (hu _).2)
          · (simp [Nat.blt_eq]; omega)
          · omega
          · omega
          · assumption
          · assumption
          · assumption
          · assumption
          · assumption
          · assumption
          · (simp [Nat.blt_eq]; omega)
          · exact eqF hk2n
          · exact eqF hk1
          · exact eqF hk0
          · (simp [Nat.blt_eq]; omega)
          · (simp [Nat.blt_eq]; omega)
          · (simp [Nat.blt_eq]; omega)
      | 2, ho, hl, hoo, hok0, hbS, hgo =>
        obtain ⟨-, hoh, hon⟩ := hoo
        have q0 : lrow fam0 2 (fpT m f ii x).M j (0 + ((IntKind.u64.wrap (avInt (f (0 + ii) 1))).tmod (IntKind.u64.wrap (Int.ofNat x.n))).toNat) 0 = AV.ptr 900 0 0 := (hl 0).trans rfl
        have q1 : lrow fam0 2 (fpT m f ii x).M j (0 + ((IntKind.u64.wrap (avInt (f (0 + ii) 1))).tmod (IntKind.u64.wrap (Int.ofNat x.n))).toNat) 1 = AV.nilp := (hl 1).trans rfl
        have q2 : lrow fam0 2 (fpT m f ii x).M j (0 + ((IntKind.u64.wrap (avInt (f (0 + ii) 1))).tmod (IntKind.u64.wrap (Int.ofNat x.n))).toNat) 2 = AV.ptr 901 0 0 := (hl 2).trans rfl
        clear hl
        have hwd2 : dWord (dOf x.R.D.n (wdF x.R.D.W)) 9 (hSlot hh) 2 = (mget x.S.M (key 9 (hSlot hh) 2)) := (hb.agr _ _ _).symm
        have hok := hnx (gPut x (mLoad x.S 9 (hSlot hh) 2) (rLoad x.R 9 (hSlot hh) 2) j (FO.mk 3 hh nx (mget x.S.M (key 9 (hSlot hh) 2)) sl)) (by rw [hgo]; unfold fpDo foO foS foR; (try simp only []); (try rfl))
        have hcl : ((fpT m f (ii + 1) (gPut x (mLoad x.S 9 (hSlot hh) 2) (rLoad x.R 9 (hSlot hh) 2) j (FO.mk 3 hh nx (mget x.S.M (key 9 (hSlot hh) 2)) sl))).M j).cells = ((fpT m f ii x).M j).cells := by show (fpMb (if j = j then (FO.mk 3 hh nx (mget x.S.M (key 9 (hSlot hh) 2)) sl) else x.O j)).cells = (fpMb (x.O j)).cells; rw [if_pos rfl, ho]; (try rfl)
        have hne : ∀ i, i ≠ j → (fpT m f (ii + 1) (gPut x (mLoad x.S 9 (hSlot hh) 2) (rLoad x.R 9 (hSlot hh) 2) j (FO.mk 3 hh nx (mget x.S.M (key 9 (hSlot hh) 2)) sl))).M i = (fpT m f ii x).M i := fun i hi => by show fpMb (if i = j then _ else x.O i) = _; rw [if_neg hi]; rfl
        refine fam_norm (F := fpF) (s0 := fpU m f q h) (X := Nat × GX FO) (T := fun z => fpT m f z.1 z.2) (x := (ii, x)) (ii + 1, (gPut x (mLoad x.S 9 (hSlot hh) 2) (rLoad x.R 9 (hSlot hh) 2) j (FO.mk 3 hh nx (mget x.S.M (key 9 (hSlot hh) 2)) sl))) j true true (f2_1 ..) (ob_cons rfl (ob_cons rfl (ob_cons rfl (ob_cons rfl (ob_cons rfl (ob_cons rfl (ob_cons ?_ (ob_cons rfl (ob_cons ?_ (ob_cons ?_ (ob_cons ?_ (ob_cons ?_ (ob_cons ?_ (ob_cons rfl (ob_cons ?_ (ob_cons ?_ (ob_cons rfl (ob_cons rfl (ob_cons rfl (ob_cons rfl (ob_cons rfl (ob_cons (Nat.le_refl _) (ob_cons (.inl ⟨rfl, rfl⟩) (ob_cons rfl (ob_cons (Nat.le_refl _) (ob_cons (.inl ⟨rfl, rfl⟩) (ob_cons ?_ (ob_cons rfl (ob_cons rfl (ob_cons ?_ (ob_cons rfl (ob_cons ?_ (ob_cons ?_ (ob_cons ?_ (ob_cons ?_ (ob_cons rfl (ob_cons ?_ (ob_cons rfl (ob_cons ?_ (ob_cons rfl (ob_cons rfl (ob_cons ?_ (ob_cons rfl (ob_cons ?_ (ob_cons ?_ (ob_cons ?_ (ob_cons rfl (ob_cons ?_ (ob_cons ?_ (ob_cons ?_ (ob_cons (tabIs_self _) (ob_cons ?_ (ob_cons ?_ (ob_cons (tabIs_self _) (ob_cons ?_ (ob_cons ?_ (ob_cons (Nat.le_refl _) (ob_cons ?_ (ob_cons ?_ (ob_cons ?_ (ob_cons ?_ (ob_cons ?_ (ob_cons ?_ (ob_cons ?_ (ob_cons ?_ (ob_cons ?_ (ob_cons ?_ (ob_cons ?_ (ob_cons ?_ (ob_cons ?_ (ob_cons ?_ (ob_cons ?_ (ob_cons ?_ ob_nil))))))))))))))))))))))))))))))))))))))))))))))))))))))))))))))))))))))))) (fun _ => hjn) (by show fpMb (x.O j) = _; rw [ho]) hok (by show m - (ii + 1) < m - ii; omega) (by show fpMb (if j = j then _ else _) = _; rw [if_pos rfl]) (.inl ⟨rfl, hjn⟩) (fun i hi hne => ⟨hi, (by show fpMb (if i = j then _ else _) = fpMb _; rw [if_neg hne])⟩)
        · exact rfl
        · assumption
        · exact rfl
        · exact rfl
        · exact rfl
        · assumption
        · exact Nat.le_refl _
        · exact fg_do (F := fpF) rfl rfl (fun i => fpMb_f _) rfl (M := (fpT m f ii x).M) (j := j) hcl hne rfl
        · exact rfl
        · exact rfl
        · exact rfl
        · exact rfl
        · exact rfl
        · exact fun _ => rfl
        · exact rfl
        · exact rfl
        · exact rfl
        · exact rfl
        · exact rfl
        · exact rfl
        · exact Nat.le_refl _
        · exact .inl ⟨rfl, rfl⟩
        · assumption
        · exact (hu _).1
        · exact (hu _).2
        · omega
        · omega
        · (simp [Nat.blt_eq]; omega)
        · omega
        · omega
        · assumption
        · assumption
        · assumption
        · assumption
        · assumption
        · assumption
        · (simp [Nat.blt_eq]; omega)
        · exact eqF hk2n
        · exact eqF hk1
        · exact eqF hk0
        · (simp [Nat.blt_eq]; omega)
        · (simp [Nat.blt_eq]; omega)
        · (simp [Nat.blt_eq]; omega)
      | 3, ho, hl, hoo, hok0, hbS, hgo =>
        obtain ⟨-, hoh, hon⟩ := hoo
        have q0 : lrow fam0 2 (fpT m f ii x).M j (0 + ((IntKind.u64.wrap (avInt (f (0 + ii) 1))).tmod (IntKind.u64.wrap (Int.ofNat x.n))).toNat) 0 = AV.ptr 900 0 0 := (hl 0).trans rfl
        have q1 : lrow fam0 2 (fpT m f ii x).M j (0 + ((IntKind.u64.wrap (avInt (f (0 + ii) 1))).tmod (IntKind.u64.wrap (Int.ofNat x.n))).toNat) 1 = AV.nilp := (hl 1).trans rfl
        have q2 : lrow fam0 2 (fpT m f ii x).M j (0 + ((IntKind.u64.wrap (avInt (f (0 + ii) 1))).tmod (IntKind.u64.wrap (Int.ofNat x.n))).toNat) 2 = AV.ptr 901 0 0 := (hl 2).trans rfl
        clear hl
        have hcd : dCasD (dOf x.R.D.n (wdF x.R.D.W)) 0 0 0 hh = casD x.S.M 0 0 0 hh := (hb.agr.casD _ _ _ _).symm
        by_cases hc : casD x.S.M 0 0 0 hh = true
        ·
          have hok := hnx (gPut x (mCas x.S 0 0 0 hh (hHead (hSlot n) (IntKind.u64.wrap (hTag hh + 1)))) (rCas x.R 0 0 0 hh (hHead (hSlot n) (IntKind.u64.wrap (hTag hh + 1)))) j (FO.mk 4 hh (hSlot n) n (hSlot hh))) (by rw [hgo]; unfold fpDo foO foS foR; (try simp only []); rw [if_pos hc]; (try rfl))
          have hcl : ((fpT m f (ii + 1) (gPut x (mCas x.S 0 0 0 hh (hHead (hSlot n) (IntKind.u64.wrap (hTag hh + 1)))) (rCas x.R 0 0 0 hh (hHead (hSlot n) (IntKind.u64.wrap (hTag hh + 1)))) j (FO.mk 4 hh (hSlot n) n (hSlot hh)))).M j).cells = ((fpT m f ii x).M j).cells := by show (fpMb (if j = j then (FO.mk 4 hh (hSlot n) n (hSlot hh)) else x.O j)).cells = (fpMb (x.O j)).cells; rw [if_pos rfl, ho]; (try rfl)
          have hne : ∀ i, i ≠ j → (fpT m f (ii + 1) (gPut x (mCas x.S 0 0 0 hh (hHead (hSlot n) (IntKind.u64.wrap (hTag hh + 1)))) (rCas x.R 0 0 0 hh (hHead (hSlot n) (IntKind.u64.wrap (hTag hh + 1)))) j (FO.mk 4 hh (hSlot n) n (hSlot hh)))).M i = (fpT m f ii x).M i := fun i hi => by show fpMb (if i = j then _ else x.O i) = _; rw [if_neg hi]; rfl
          refine fam_norm (F := fpF) (s0 := fpU m f q h) (X := Nat × GX FO) (T := fun z => fpT m f z.1 z.2) (x := (ii, x)) (ii + 1, (gPut x (mCas x.S 0 0 0 hh (hHead (hSlot n) (IntKind.u64.wrap (hTag hh + 1)))) (rCas x.R 0 0 0 hh (hHead (hSlot n) (IntKind.u64.wrap (hTag hh + 1)))) j (FO.mk 4 hh (hSlot n) n (hSlot hh)))) j true true (f3a_1 ..) (ob_cons rfl (ob_cons rfl (ob_cons rfl (ob_cons rfl (ob_cons rfl (ob_cons rfl (ob_cons ?_ (ob_cons rfl (ob_cons ?_ (ob_cons ?_ (ob_cons ?_ (ob_cons ?_ (ob_cons ?_ (ob_cons ?_ (ob_cons ?_ (ob_cons rfl (ob_cons ?_ (ob_cons ?_ (ob_cons rfl (ob_cons rfl (ob_cons rfl (ob_cons rfl (ob_cons rfl (ob_cons (Nat.le_refl _) (ob_cons (.inl ⟨rfl, rfl⟩) (ob_cons rfl (ob_cons (Nat.le_refl _) (ob_cons (.inl ⟨rfl, rfl⟩) (ob_cons ?_ (ob_cons rfl (ob_cons rfl (ob_cons rfl (ob_cons rfl (ob_cons ?_ (ob_cons ?_ (ob_cons ?_ (ob_cons ?_ (ob_cons rfl (ob_cons ?_ (ob_cons rfl (ob_cons ?_ (ob_cons rfl (ob_cons rfl (ob_cons rfl (ob_cons rfl (ob_cons ?_ (ob_cons ?_ (ob_cons ?_ (ob_cons rfl (ob_cons ?_ (ob_cons ?_ (ob_cons ?_ (ob_cons ?_ (ob_cons (tabIs_self _) (ob_cons ?_ (ob_cons ?_ (ob_cons ?_ (ob_cons (Int.le_refl _) (ob_cons (tabIs_self _) (ob_cons ?_ (ob_cons ?_ (ob_cons (tabIs_self _) (ob_cons ?_ (ob_cons ?_ (ob_cons ?_ (ob_cons (Nat.le_refl _) (ob_cons ?_ (ob_cons (Int.le_refl _) (ob_cons ?_ (ob_cons ?_ (ob_cons ?_ (ob_cons ?_ (ob_cons ?_ (ob_cons ?_ (ob_cons ?_ (ob_cons ?_ (ob_cons ?_ (ob_cons ?_ (ob_cons ?_ (ob_cons ?_ (ob_cons ?_ (ob_cons ?_ (ob_cons ?_ (ob_cons ?_ (ob_cons ?_ (ob_cons ?_ (ob_cons ?_ ob_nil))))))))))))))))))))))))))))))))))))))))))))))))))))))))))))))))))))))))))))))))))))))) (fun _ => hjn) (by show fpMb (x.O j) = _; rw [ho]) hok (by show m - (ii + 1) < m - ii; omega) (by show fpMb (if j = j then _ else _) = _; rw [if_pos rfl]) (.inl ⟨rfl, hjn⟩) (fun i hi hne => ⟨hi, (by show fpMb (if i = j then _ else _) = fpMb _; rw [if_neg hne])⟩)
          · exact rfl
          · assumption
          · exact rfl
          · exact rfl
          · exact rfl
          · exact rfl
          · exact rfl
          · exact rfl
          · exact Nat.le_refl _
          · exact fg_do (F := fpF) rfl rfl (fun i => fpMb_f _) rfl (M := (fpT m f ii x).M) (j := j) hcl hne rfl
          · exact rfl
          · exact rfl
          · exact rfl
          · exact rfl
          · exact fun _ => rfl
          · exact rfl
          · exact rfl
          · exact rfl
          · exact rfl
          · exact rfl
          · exact Nat.le_refl _
          · exact .inl ⟨rfl, rfl⟩
          · assumption
          · (simp; done)
          · omega
          · omega
          · (show (!casD x.S.M 0 0 0 hh) = false; rw [hc]; rfl)
          · exact (w64_r _).1
          · exact (w64_r _).2
          · omega
          · omega
          · (rw [hcd]; exact hc)
          · (simp [Nat.blt_eq]; omega)
          · exact (w64_r _).1
          · exact (w64_r _).2
          · omega
          · omega
          · omega
          · omega
          · assumption
          · assumption
          · assumption
          · assumption
          · assumption
          · assumption
          · (simp [Nat.blt_eq]; omega)
          · exact eqF hk2n
          · exact eqF hk1
          · exact eqF hk0
          · (simp [Nat.blt_eq]; omega)
          · (simp [Nat.blt_eq]; omega)
          · (simp [Nat.blt_eq]; omega)
        ·
          have hcf : casD x.S.M 0 0 0 hh = false := by simpa using hc
          have hok := hnx (gPut x (mCas x.S 0 0 0 hh (hHead (hSlot n) (IntKind.u64.wrap (hTag hh + 1)))) (rCas x.R 0 0 0 hh (hHead (hSlot n) (IntKind.u64.wrap (hTag hh + 1)))) j (FO.mk 1 hh (hSlot n) n sl)) (by rw [hgo]; unfold fpDo foO foS foR; (try simp only []); rw [if_neg hc]; (try rfl))
          have hcl : ((fpT m f (ii + 1) (gPut x (mCas x.S 0 0 0 hh (hHead (hSlot n) (IntKind.u64.wrap (hTag hh + 1)))) (rCas x.R 0 0 0 hh (hHead (hSlot n) (IntKind.u64.wrap (hTag hh + 1)))) j (FO.mk 1 hh (hSlot n) n sl))).M j).cells = ((fpT m f ii x).M j).cells := by show (fpMb (if j = j then (FO.mk 1 hh (hSlot n) n sl) else x.O j)).cells = (fpMb (x.O j)).cells; rw [if_pos rfl, ho]; (try rfl)
          have hne : ∀ i, i ≠ j → (fpT m f (ii + 1) (gPut x (mCas x.S 0 0 0 hh (hHead (hSlot n) (IntKind.u64.wrap (hTag hh + 1)))) (rCas x.R 0 0 0 hh (hHead (hSlot n) (IntKind.u64.wrap (hTag hh + 1)))) j (FO.mk 1 hh (hSlot n) n sl))).M i = (fpT m f ii x).M i := fun i hi => by show fpMb (if i = j then _ else x.O i) = _; rw [if_neg hi]; rfl
          refine fam_norm (F := fpF) (s0 := fpU m f q h) (X := Nat × GX FO) (T := fun z => fpT m f z.1 z.2) (x := (ii, x)) (ii + 1, (gPut x (mCas x.S 0 0 0 hh (hHead (hSlot n) (IntKind.u64.wrap (hTag hh + 1)))) (rCas x.R 0 0 0 hh (hHead (hSlot n) (IntKind.u64.wrap (hTag hh + 1)))) j (FO.mk 1 hh (hSlot n) n sl))) j true true (f3b_1 ..) (ob_cons rfl (ob_cons rfl (ob_cons rfl (ob_cons rfl (ob_cons rfl (ob_cons rfl (ob_cons ?_ (ob_cons rfl (ob_cons ?_ (ob_cons ?_ (ob_cons ?_ (ob_cons ?_ (ob_cons ?_ (ob_cons rfl (ob_cons ?_ (ob_cons ?_ (ob_cons rfl (ob_cons rfl (ob_cons rfl (ob_cons rfl (ob_cons rfl (ob_cons (Nat.le_refl _) (ob_cons (.inl ⟨rfl, rfl⟩) (ob_cons rfl (ob_cons (Nat.le_refl _) (ob_cons (.inl ⟨rfl, rfl⟩) (ob_cons ?_ (ob_cons rfl (ob_cons rfl (ob_cons rfl (ob_cons rfl (ob_cons ?_ (ob_cons ?_ (ob_cons ?_ (ob_cons ?_ (ob_cons rfl (ob_cons ?_ (ob_cons rfl (ob_cons ?_ (ob_cons rfl (ob_cons rfl (ob_cons rfl (ob_cons rfl (ob_cons ?_ (ob_cons ?_ (ob_cons ?_ (ob_cons rfl (ob_cons ?_ (ob_cons ?_ (ob_cons ?_ (ob_cons ?_ (ob_cons (Int.le_refl _) (ob_cons (tabIs_self _) (ob_cons ?_ (ob_cons ?_ (ob_cons (tabIs_self _) (ob_cons ?_ (ob_cons ?_ (ob_cons ?_ (ob_cons (Nat.le_refl _) (ob_cons ?_ (ob_cons (Int.le_refl _) (ob_cons ?_ (ob_cons ?_ (ob_cons ?_ (ob_cons ?_ (ob_cons ?_ (ob_cons ?_ (ob_cons ?_ (ob_cons ?_ (ob_cons ?_ (ob_cons ?_ (ob_cons ?_ (ob_cons ?_ (ob_cons ?_ (ob_cons ?_ (ob_cons ?_ (ob_cons ?_ (ob_cons ?_ (ob_cons ?_ (ob_cons ?_ ob_nil))))))))))))))))))))))))))))))))))))))))))))))))))))))))))))))))))))))))))))))))) (fun _ => hjn) (by show fpMb (x.O j) = _; rw [ho]) hok (by show m - (ii + 1) < m - ii; omega) (by show fpMb (if j = j then _ else _) = _; rw [if_pos rfl]) (.inl ⟨rfl, hjn⟩) (fun i hi hne => ⟨hi, (by show fpMb (if i = j then _ else _) = fpMb _; rw [if_neg hne])⟩)
          · exact rfl
          · assumption
          · exact rfl
          · exact rfl
          · exact rfl
          · exact rfl
          · exact Nat.le_refl _
          · exact fg_do (F := fpF) rfl rfl (fun i => fpMb_f _) rfl (M := (fpT m f ii x).M) (j := j) hcl hne rfl
          · exact rfl
          · exact rfl
          · exact rfl
          · exact rfl
          · exact fun _ => rfl
          · exact rfl
          · exact rfl
          · exact rfl
          · exact rfl
          · exact rfl
          · exact Nat.le_refl _
          · exact .inl ⟨rfl, rfl⟩
          · assumption
          · (show (!casD x.S.M 0 0 0 hh) = true; rw [hcf]; rfl)
          · exact (w64_r _).1
          · exact (w64_r _).2
          · omega
          · omega
          · (rw [hcd]; exact hcf)
          · (simp [Nat.blt_eq]; omega)
          · exact (w64_r _).1
          · exact (w64_r _).2
          · omega
          · omega
          · omega
          · omega
          · assumption
          · assumption
          · assumption
          · assumption
          · assumption
          · assumption
          · (simp [Nat.blt_eq]; omega)
          · exact eqF hk2n
          · exact eqF hk1
          · exact eqF hk0
          · (simp [Nat.blt_eq]; omega)
          · (simp [Nat.blt_eq]; omega)
          · (simp [Nat.blt_eq]; omega)
      | 4, ho, hl, hoo, hok0, hbS, hgo =>
        obtain ⟨-, hoh, hon⟩ := hoo
        have q0 : lrow fam0 2 (fpT m f ii x).M j (0 + ((IntKind.u64.wrap (avInt (f (0 + ii) 1))).tmod (IntKind.u64.wrap (Int.ofNat x.n))).toNat) 0 = AV.ptr 900 0 0 := (hl 0).trans rfl
        have q1 : lrow fam0 2 (fpT m f ii x).M j (0 + ((IntKind.u64.wrap (avInt (f (0 + ii) 1))).tmod (IntKind.u64.wrap (Int.ofNat x.n))).toNat) 1 = AV.nilp := (hl 1).trans rfl
        have q2 : lrow fam0 2 (fpT m f ii x).M j (0 + ((IntKind.u64.wrap (avInt (f (0 + ii) 1))).tmod (IntKind.u64.wrap (Int.ofNat x.n))).toNat) 2 = AV.ptr 901 0 0 := (hl 2).trans rfl
        clear hl
        have hok := hnx (gPut x x.S x.R j (FO.mk 4 hh nx n sl)) (by rw [hgo]; unfold fpDo foO foS foR; (try simp only []); (try rfl))
        have hcl : ((fpT m f (ii + 1) (gPut x x.S x.R j (FO.mk 4 hh nx n sl))).M j).cells = ((fpT m f ii x).M j).cells := by show (fpMb (if j = j then (FO.mk 4 hh nx n sl) else x.O j)).cells = (fpMb (x.O j)).cells; rw [if_pos rfl, ho]; (try rfl)
        have hne : ∀ i, i ≠ j → (fpT m f (ii + 1) (gPut x x.S x.R j (FO.mk 4 hh nx n sl))).M i = (fpT m f ii x).M i := fun i hi => by show fpMb (if i = j then _ else x.O i) = _; rw [if_neg hi]; rfl
        refine fam_norm (F := fpF) (s0 := fpU m f q h) (X := Nat × GX FO) (T := fun z => fpT m f z.1 z.2) (x := (ii, x)) (ii + 1, (gPut x x.S x.R j (FO.mk 4 hh nx n sl))) j true true (f4_1 ..) (ob_cons rfl (ob_cons rfl (ob_cons rfl (ob_cons rfl (ob_cons rfl (ob_cons rfl (ob_cons ?_ (ob_cons rfl (ob_cons ?_ (ob_cons rfl (ob_cons rfl (ob_cons rfl (ob_cons rfl (ob_cons rfl (ob_cons rfl (ob_cons rfl (ob_cons ?_ (ob_cons ?_ (ob_cons rfl (ob_cons rfl (ob_cons rfl (ob_cons rfl (ob_cons rfl (ob_cons (Nat.le_refl _) (ob_cons (.inl ⟨rfl, rfl⟩) (ob_cons rfl (ob_cons (Nat.le_refl _) (ob_cons (.inl ⟨rfl, rfl⟩) (ob_cons ?_ (ob_cons ?_ (ob_cons ?_ (ob_cons ?_ (ob_cons ?_ (ob_cons ?_ (ob_cons ?_ (ob_cons ?_ (ob_cons ?_ (ob_cons rfl (ob_cons ?_ (ob_cons rfl (ob_cons ?_ (ob_cons ?_ (ob_cons ?_ (ob_cons ?_ (ob_cons ?_ (ob_cons ?_ (ob_cons ?_ (ob_cons ?_ (ob_cons rfl (ob_cons ?_ (ob_cons ?_ (ob_cons ?_ (ob_cons ?_ (ob_cons ?_ (ob_cons ?_ (ob_cons ?_ (ob_cons ?_ (ob_cons ?_ (ob_cons ?_ (ob_cons ?_ (ob_cons ?_ (ob_cons ?_ (ob_cons ?_ (ob_cons ?_ (ob_cons ?_ (ob_cons ?_ (ob_cons ?_ (ob_cons ?_ ob_nil)))))))))))))))))))))))))))))))))))))))))))))))))))))))))))))))))))) (fun _ => hjn) (by show fpMb (x.O j) = _; rw [ho]) hok (by show m - (ii + 1) < m - ii; omega) (by show fpMb (if j = j then _ else _) = _; rw [if_pos rfl]) (.inl ⟨rfl, hjn⟩) (fun i hi hne => ⟨hi, (by show fpMb (if i = j then _ else _) = fpMb _; rw [if_neg hne])⟩)
        · exact rfl
        · assumption
        · exact Nat.le_refl _
        · exact fg_do (F := fpF) rfl rfl (fun i => fpMb_f _) rfl (M := (fpT m f ii x).M) (j := j) hcl hne rfl
        · exact rfl
        · exact rfl
        · exact rfl
        · exact rfl
        · exact rfl
        · exact rfl
        · exact rfl
        · exact rfl
        · exact fun _ => rfl
        · exact rfl
        · exact rfl
        · exact rfl
        · exact rfl
        · exact rfl
        · exact rfl
        · exact rfl
        · exact rfl
        · exact rfl
        · exact Nat.le_refl _
        · exact .inl ⟨rfl, rfl⟩
        · assumption
        · (simp; done)
        · omega
        · omega
        · assumption
        · assumption
        · assumption
        · assumption
        · assumption
        · assumption
        · (simp [Nat.blt_eq]; omega)
        · exact eqF hk2n
        · exact eqF hk1
        · exact eqF hk0
        · (simp [Nat.blt_eq]; omega)
        · (simp [Nat.blt_eq]; omega)
        · (simp [Nat.blt_eq]; omega)
      | 5, ho, hl, hoo, hok0, hbS, hgo =>
        obtain ⟨-, hoh, hon⟩ := hoo
        have q0 : lrow fam0 2 (fpT m f ii x).M j (0 + ((IntKind.u64.wrap (avInt (f (0 + ii) 1))).tmod (IntKind.u64.wrap (Int.ofNat x.n))).toNat) 0 = AV.nilp := (hl 0).trans rfl
        have q1 : lrow fam0 2 (fpT m f ii x).M j (0 + ((IntKind.u64.wrap (avInt (f (0 + ii) 1))).tmod (IntKind.u64.wrap (Int.ofNat x.n))).toNat) 1 = AV.ptr 900 0 0 := (hl 1).trans rfl
        have q2 : lrow fam0 2 (fpT m f ii x).M j (0 + ((IntKind.u64.wrap (avInt (f (0 + ii) 1))).tmod (IntKind.u64.wrap (Int.ofNat x.n))).toNat) 2 = AV.ptr 901 0 0 := (hl 2).trans rfl
        clear hl
        have hok := hnx (gPut x x.S x.R j (FO.mk 5 hh nx n sl)) (by rw [hgo]; unfold fpDo foO foS foR; (try simp only []); (try rfl))
        have hcl : ((fpT m f (ii + 1) (gPut x x.S x.R j (FO.mk 5 hh nx n sl))).M j).cells = ((fpT m f ii x).M j).cells := by show (fpMb (if j = j then (FO.mk 5 hh nx n sl) else x.O j)).cells = (fpMb (x.O j)).cells; rw [if_pos rfl, ho]; (try rfl)
        have hne : ∀ i, i ≠ j → (fpT m f (ii + 1) (gPut x x.S x.R j (FO.mk 5 hh nx n sl))).M i = (fpT m f ii x).M i := fun i hi => by show fpMb (if i = j then _ else x.O i) = _; rw [if_neg hi]; rfl
        refine fam_norm (F := fpF) (s0 := fpU m f q h) (X := Nat × GX FO) (T := fun z => fpT m f z.1 z.2) (x := (ii, x)) (ii + 1, (gPut x x.S x.R j (FO.mk 5 hh nx n sl))) j true true (f5_1 ..) (ob_cons rfl (ob_cons rfl (ob_cons rfl (ob_cons rfl (ob_cons rfl (ob_cons rfl (ob_cons ?_ (ob_cons rfl (ob_cons ?_ (ob_cons rfl (ob_cons rfl (ob_cons rfl (ob_cons rfl (ob_cons rfl (ob_cons rfl (ob_cons ?_ (ob_cons ?_ (ob_cons rfl (ob_cons rfl (ob_cons rfl (ob_cons rfl (ob_cons rfl (ob_cons (Nat.le_refl _) (ob_cons (.inl ⟨rfl, rfl⟩) (ob_cons rfl (ob_cons (Nat.le_refl _) (ob_cons (.inl ⟨rfl, rfl⟩) (ob_cons ?_ (ob_cons ?_ (ob_cons ?_ (ob_cons ?_ (ob_cons ?_ (ob_cons ?_ (ob_cons ?_ (ob_cons ?_ (ob_cons ?_ (ob_cons rfl (ob_cons ?_ (ob_cons rfl (ob_cons ?_ (ob_cons ?_ (ob_cons ?_ (ob_cons ?_ (ob_cons ?_ (ob_cons ?_ (ob_cons ?_ (ob_cons ?_ (ob_cons rfl (ob_cons ?_ (ob_cons ?_ (ob_cons ?_ (ob_cons ?_ (ob_cons ?_ (ob_cons ?_ (ob_cons ?_ (ob_cons ?_ (ob_cons ?_ (ob_cons ?_ (ob_cons ?_ (ob_cons ?_ (ob_cons ?_ (ob_cons ?_ (ob_cons ?_ (ob_cons ?_ (ob_cons ?_ (ob_cons ?_ ob_nil)))))))))))))))))))))))))))))))))))))))))))))))))))))))))))))))))) (fun _ => hjn) (by show fpMb (x.O j) = _; rw [ho]) hok (by show m - (ii + 1) < m - ii; omega) (by show fpMb (if j = j then _ else _) = _; rw [if_pos rfl]) (.inl ⟨rfl, hjn⟩) (fun i hi hne => ⟨hi, (by show fpMb (if i = j then _ else _) = fpMb _; rw [if_neg hne])⟩)
        · exact rfl
        · assumption
        · exact Nat.le_refl _
        · exact fg_do (F := fpF) rfl rfl (fun i => fpMb_f _) rfl (M := (fpT m f ii x).M) (j := j) hcl hne rfl
        · exact rfl
        · exact rfl
        · exact rfl
        · exact rfl
        · exact rfl
        · exact rfl
        · exact rfl
        · exact rfl
        · exact fun _ => rfl
        · exact rfl
        · exact rfl
        · exact rfl
        · exact rfl
        · exact rfl
        · exact rfl
        · exact rfl
        · exact rfl
        · exact rfl
        · exact Nat.le_refl _
        · exact .inl ⟨rfl, rfl⟩
        · assumption
        · omega
        · omega
        · assumption
        · assumption
        · assumption
        · assumption
        · assumption
        · assumption
        · (simp [Nat.blt_eq]; omega)
        · exact eqF hk2n
        · exact eqF hk1
        · exact eqF hk0
        · (simp [Nat.blt_eq]; omega)
        · (simp [Nat.blt_eq]; omega)
        · (simp [Nat.blt_eq]; omega)
      | 6, ho, hl, hoo, hok0, hbS, hgo =>
        obtain ⟨-, hoh, hon⟩ := hoo
        have q0 : lrow fam0 2 (fpT m f ii x).M j (0 + ((IntKind.u64.wrap (avInt (f (0 + ii) 1))).tmod (IntKind.u64.wrap (Int.ofNat x.n))).toNat) 0 = AV.nilp := (hl 0).trans rfl
        have q1 : lrow fam0 2 (fpT m f ii x).M j (0 + ((IntKind.u64.wrap (avInt (f (0 + ii) 1))).tmod (IntKind.u64.wrap (Int.ofNat x.n))).toNat) 1 = AV.ptr 900 0 0 := (hl 1).trans rfl
        have q2 : lrow fam0 2 (fpT m f ii x).M j (0 + ((IntKind.u64.wrap (avInt (f (0 + ii) 1))).tmod (IntKind.u64.wrap (Int.ofNat x.n))).toNat) 2 = AV.ptr 901 0 0 := (hl 2).trans rfl
        clear hl
        have hwd : dWord (dOf x.R.D.n (wdF x.R.D.W)) 0 0 0 = (mget x.S.M (key 0 0 0)) := (hb.agr _ _ _).symm
        have hok := hnx (gPut x (mLoad x.S 0 0 0) (rLoad x.R 0 0 0) j (FO.mk 7 (mget x.S.M (key 0 0 0)) nx n sl)) (by rw [hgo]; unfold fpDo foO foS foR; (try simp only []); (try rfl))
        have hcl : ((fpT m f (ii + 1) (gPut x (mLoad x.S 0 0 0) (rLoad x.R 0 0 0) j (FO.mk 7 (mget x.S.M (key 0 0 0)) nx n sl))).M j).cells = ((fpT m f ii x).M j).cells := by show (fpMb (if j = j then (FO.mk 7 (mget x.S.M (key 0 0 0)) nx n sl) else x.O j)).cells = (fpMb (x.O j)).cells; rw [if_pos rfl, ho]; (try rfl)
        have hne : ∀ i, i ≠ j → (fpT m f (ii + 1) (gPut x (mLoad x.S 0 0 0) (rLoad x.R 0 0 0) j (FO.mk 7 (mget x.S.M (key 0 0 0)) nx n sl))).M i = (fpT m f ii x).M i := fun i hi => by show fpMb (if i = j then _ else x.O i) = _; rw [if_neg hi]; rfl
        cases h1 : (decide (hSlot (dWord (dOf x.R.D.n (wdF x.R.D.W)) 0 0 0) < 0)) with
        | true =>
          have g1 := of_decide_eq_true h1
          try simp only [Int.ofNat_eq_natCast, ge_iff_le, gt_iff_lt, Int.not_lt, Int.not_le] at g1
          refine fam_norm (F := fpF) (s0 := fpU m f q h) (X := Nat × GX FO) (T := fun z => fpT m f z.1 z.2) (x := (ii, x)) (ii + 1, (gPut x (mLoad x.S 0 0 0) (rLoad x.R 0 0 0) j (FO.mk 7 (mget x.S.M (key 0 0 0)) nx n sl))) j true true (f6_1 ..) (ob_cons rfl (ob_cons rfl (ob_cons rfl (ob_cons rfl (ob_cons rfl (ob_cons rfl (ob_cons ?_ (ob_cons rfl (ob_cons ?_ (ob_cons ?_ (ob_cons ?_ (ob_cons ?_ (ob_cons ?_ (ob_cons ?_ (ob_cons rfl (ob_cons ?_ (ob_cons ?_ (ob_cons rfl (ob_cons rfl (ob_cons rfl (ob_cons rfl (ob_cons rfl (ob_cons (Nat.le_refl _) (ob_cons (.inl ⟨rfl, rfl⟩) (ob_cons rfl (ob_cons (Nat.le_refl _) (ob_cons (.inl ⟨rfl, rfl⟩) (ob_cons ?_ (ob_cons rfl (ob_cons rfl (ob_cons rfl (ob_cons rfl (ob_cons ?_ (ob_cons ?_ (ob_cons ?_ (ob_cons ?_ (ob_cons rfl (ob_cons ?_ (ob_cons rfl (ob_cons ?_ (ob_cons rfl (ob_cons rfl (ob_cons rfl (ob_cons rfl (ob_cons ?_ (ob_cons ?_ (ob_cons ?_ (ob_cons rfl (ob_cons ?_ (ob_cons ?_ (ob_cons ?_ (ob_cons (tabIs_self _) (ob_cons ?_ (ob_cons ?_ (ob_cons h1 (ob_cons ?_ (ob_cons ?_ (ob_cons (Nat.le_refl _) (ob_cons ?_ (ob_cons ?_ (ob_cons ?_ (ob_cons ?_ (ob_cons ?_ (ob_cons ?_ (ob_cons ?_ (ob_cons ?_ (ob_cons ?_ (ob_cons ?_ (ob_cons ?_ (ob_cons ?_ (ob_cons ?_ (ob_cons ?_ (ob_cons ?_ (ob_cons ?_ ob_nil)))))))))))))))))))))))))))))))))))))))))))))))))))))))))))))))))))))))))) (fun _ => hjn) (by show fpMb (x.O j) = _; rw [ho]) hok (by show m - (ii + 1) < m - ii; omega) (by show fpMb (if j = j then _ else _) = _; rw [if_pos rfl]) (.inl ⟨rfl, hjn⟩) (fun i hi hne => ⟨hi, (by show fpMb (if i = j then _ else _) = fpMb _; rw [if_neg hne])⟩)
          · exact rfl
          · assumption
          · exact rfl
          · exact rfl
          · exact rfl
          · assumption
          · exact rfl
          · exact Nat.le_refl _
          · exact fg_do (F := fpF) rfl rfl (fun i => fpMb_f _) rfl (M := (fpT m f ii x).M) (j := j) hcl hne rfl
          · exact rfl
          · exact rfl
          · exact rfl
          · exact rfl
          · exact fun _ => rfl
          · exact rfl
          · exact rfl
          · exact rfl
          · exact rfl
          · exact rfl
          · exact Nat.le_refl _
          · exact .inl ⟨rfl, rfl⟩
          · assumption
          · exact (hu _).1
          · exact (hu _).2
          · (rw [hwd]; exact (hu _).1)
          · (rw [hwd]; exact (hu _).2)
          · (simp [Nat.blt_eq]; omega)
          · omega
          · omega
          · assumption
          · assumption
          · assumption
          · assumption
          · assumption
          · assumption
          · (simp [Nat.blt_eq]; omega)
          · exact eqF hk2n
          · exact eqF hk1
          · exact eqF hk0
          · (simp [Nat.blt_eq]; omega)
          · (simp [Nat.blt_eq]; omega)
          · (simp [Nat.blt_eq]; omega)
        | false =>
          have g1 := of_decide_eq_false h1
          try simp only [Int.ofNat_eq_natCast, ge_iff_le, gt_iff_lt, Int.not_lt, Int.not_le] at g1
          refine fam_norm (F := fpF) (s0 := fpU m f q h) (X := Nat × GX FO) (T := fun z => fpT m f z.1 z.2) (x := (ii, x)) (ii + 1, (gPut x (mLoad x.S 0 0 0) (rLoad x.R 0 0 0) j (FO.mk 7 (mget x.S.M (key 0 0 0)) nx n sl))) j true true (f6_2 ..) (ob_cons rfl (ob_cons rfl (ob_cons rfl (ob_cons rfl (ob_cons rfl (ob_cons rfl (ob_cons ?_ (ob_cons rfl (ob_cons ?_ (ob_cons ?_ (ob_cons ?_ (ob_cons ?_ (ob_cons ?_ (ob_cons ?_ (ob_cons rfl (ob_cons ?_ (ob_cons ?_ (ob_cons rfl (ob_cons rfl (ob_cons rfl (ob_cons rfl (ob_cons rfl (ob_cons (Nat.le_refl _) (ob_cons (.inl ⟨rfl, rfl⟩) (ob_cons rfl (ob_cons (Nat.le_refl _) (ob_cons (.inl ⟨rfl, rfl⟩) (ob_cons ?_ (ob_cons rfl (ob_cons rfl (ob_cons rfl (ob_cons rfl (ob_cons ?_ (ob_cons ?_ (ob_cons ?_ (ob_cons ?_ (ob_cons rfl (ob_cons ?_ (ob_cons rfl (ob_cons ?_ (ob_cons rfl (ob_cons rfl (ob_cons rfl (ob_cons rfl (ob_cons ?_ (ob_cons ?_ (ob_cons ?_ (ob_cons rfl (ob_cons ?_ (ob_cons ?_ (ob_cons ?_ (ob_cons (tabIs_self _) (ob_cons ?_ (ob_cons ?_ (ob_cons h1 (ob_cons ?_ (ob_cons ?_ (ob_cons (Nat.le_refl _) (ob_cons ?_ (ob_cons ?_ (ob_cons ?_ (ob_cons ?_ (ob_cons ?_ (ob_cons ?_ (ob_cons ?_ (ob_cons ?_ (ob_cons ?_ (ob_cons ?_ (ob_cons ?_ (ob_cons ?_ (ob_cons ?_ (ob_cons ?_ (ob_cons ?_ (ob_cons ?_ ob_nil)))))))))))))))))))))))))))))))))))))))))))))))))))))))))))))))))))))))))) (fun _ => hjn) (by show fpMb (x.O j) = _; rw [ho]) hok (by show m - (ii + 1) < m - ii; omega) (by show fpMb (if j = j then _ else _) = _; rw [if_pos rfl]) (.inl ⟨rfl, hjn⟩) (fun i hi hne => ⟨hi, (by show fpMb (if i = j then _ else _) = fpMb _; rw [if_neg hne])⟩)
          · exact rfl
          · assumption
          · exact rfl
          · exact rfl
          · exact rfl
          · assumption
          · exact rfl
          · exact Nat.le_refl _
          · exact fg_do (F := fpF) rfl rfl (fun i => fpMb_f _) rfl (M := (fpT m f ii x).M) (j := j) hcl hne rfl
          · exact rfl
          · exact rfl
          · exact rfl
          · exact rfl
          · exact fun _ => rfl
          · exact rfl
          · exact rfl
          · exact rfl
          · exact rfl
          · exact rfl
          · exact Nat.le_refl _
          · exact .inl ⟨rfl, rfl⟩
          · assumption
          · exact (hu _).1
          · exact (hu _).2
          · (rw [hwd]; exact (hu _).1)
          · (rw [hwd]; exact (hu _).2)
          · (simp [Nat.blt_eq]; omega)
          · omega
          · omega
          · assumption
          · assumption
          · assumption
          · assumption
          · assumption
          · assumption
          · (simp [Nat.blt_eq]; omega)
          · exact eqF hk2n
          · exact eqF hk1
          · exact eqF hk0
          · (simp [Nat.blt_eq]; omega)
          · (simp [Nat.blt_eq]; omega)
          · (simp [Nat.blt_eq]; omega)
      | 7, ho, hl, hoo, hok0, hbS, hgo =>
        obtain ⟨-, hoh, hon⟩ := hoo
        have q0 : lrow fam0 2 (fpT m f ii x).M j (0 + ((IntKind.u64.wrap (avInt (f (0 + ii) 1))).tmod (IntKind.u64.wrap (Int.ofNat x.n))).toNat) 0 = AV.nilp := (hl 0).trans rfl
        have q1 : lrow fam0 2 (fpT m f ii x).M j (0 + ((IntKind.u64.wrap (avInt (f (0 + ii) 1))).tmod (IntKind.u64.wrap (Int.ofNat x.n))).toNat) 1 = AV.ptr 900 0 0 := (hl 1).trans rfl
        have q2 : lrow fam0 2 (fpT m f ii x).M j (0 + ((IntKind.u64.wrap (avInt (f (0 + ii) 1))).tmod (IntKind.u64.wrap (Int.ofNat x.n))).toNat) 2 = AV.ptr 901 0 0 := (hl 2).trans rfl
        clear hl
        have hok := hnx (gPut x (mStore x.S 9 sl 2 (hHead (hSlot hh) 0)) (rStore x.R 9 sl 2 (hHead (hSlot hh) 0)) j (FO.mk 8 hh nx n sl)) (by rw [hgo]; unfold fpDo foO foS foR; (try simp only []); (try rfl))
        have hcl : ((fpT m f (ii + 1) (gPut x (mStore x.S 9 sl 2 (hHead (hSlot hh) 0)) (rStore x.R 9 sl 2 (hHead (hSlot hh) 0)) j (FO.mk 8 hh nx n sl))).M j).cells = ((fpT m f ii x).M j).cells := by show (fpMb (if j = j then (FO.mk 8 hh nx n sl) else x.O j)).cells = (fpMb (x.O j)).cells; rw [if_pos rfl, ho]; (try rfl)
        have hne : ∀ i, i ≠ j → (fpT m f (ii + 1) (gPut x (mStore x.S 9 sl 2 (hHead (hSlot hh) 0)) (rStore x.R 9 sl 2 (hHead (hSlot hh) 0)) j (FO.mk 8 hh nx n sl))).M i = (fpT m f ii x).M i := fun i hi => by show fpMb (if i = j then _ else x.O i) = _; rw [if_neg hi]; rfl
        refine fam_norm (F := fpF) (s0 := fpU m f q h) (X := Nat × GX FO) (T := fun z => fpT m f z.1 z.2) (x := (ii, x)) (ii + 1, (gPut x (mStore x.S 9 sl 2 (hHead (hSlot hh) 0)) (rStore x.R 9 sl 2 (hHead (hSlot hh) 0)) j (FO.mk 8 hh nx n sl))) j true true (f7_1 ..) (ob_cons rfl (ob_cons rfl (ob_cons rfl (ob_cons rfl (ob_cons rfl (ob_cons rfl (ob_cons ?_ (ob_cons rfl (ob_cons ?_ (ob_cons ?_ (ob_cons ?_ (ob_cons ?_ (ob_cons ?_ (ob_cons ?_ (ob_cons rfl (ob_cons ?_ (ob_cons ?_ (ob_cons rfl (ob_cons rfl (ob_cons rfl (ob_cons rfl (ob_cons rfl (ob_cons (Nat.le_refl _) (ob_cons (.inl ⟨rfl, rfl⟩) (ob_cons rfl (ob_cons (Nat.le_refl _) (ob_cons (.inl ⟨rfl, rfl⟩) (ob_cons ?_ (ob_cons rfl (ob_cons rfl (ob_cons ?_ (ob_cons rfl (ob_cons ?_ (ob_cons ?_ (ob_cons ?_ (ob_cons ?_ (ob_cons rfl (ob_cons ?_ (ob_cons rfl (ob_cons ?_ (ob_cons rfl (ob_cons rfl (ob_cons ?_ (ob_cons rfl (ob_cons ?_ (ob_cons ?_ (ob_cons ?_ (ob_cons rfl (ob_cons ?_ (ob_cons ?_ (ob_cons ?_ (ob_cons (by decide) (ob_cons (tabIs_self _) (ob_cons (Int.le_refl _) (ob_cons (by decide) (ob_cons (tabIs_self _) (ob_cons ?_ (ob_cons ?_ (ob_cons (Nat.le_refl _) (ob_cons ?_ (ob_cons (by decide) (ob_cons (Int.le_refl _) (ob_cons (by decide) (ob_cons ?_ (ob_cons ?_ (ob_cons ?_ (ob_cons ?_ (ob_cons ?_ (ob_cons ?_ (ob_cons ?_ (ob_cons ?_ (ob_cons ?_ (ob_cons ?_ (ob_cons ?_ (ob_cons ?_ (ob_cons ?_ (ob_cons ?_ (ob_cons ?_ ob_nil)))))))))))))))))))))))))))))))))))))))))))))))))))))))))))))))))))))))))))))) (fun _ => hjn) (by show fpMb (x.O j) = _; rw [ho]) hok (by show m - (ii + 1) < m - ii; omega) (by show fpMb (if j = j then _ else _) = _; rw [if_pos rfl]) (.inl ⟨rfl, hjn⟩) (fun i hi hne => ⟨hi, (by show fpMb (if i = j then _ else _) = fpMb _; rw [if_neg hne])⟩)
        · exact rfl
        · assumption
        · exact rfl
        · exact rfl
        · exact rfl
        · exact rfl
        · exact rfl
        · exact Nat.le_refl _
        · exact fg_do (F := fpF) rfl rfl (fun i => fpMb_f _) rfl (M := (fpT m f ii x).M) (j := j) hcl hne rfl
        · exact rfl
        · exact rfl
        · exact rfl
        · exact rfl
        · exact rfl
        · exact fun _ => rfl
        · exact rfl
        · exact rfl
        · exact rfl
        · exact rfl
        · exact rfl
        · exact rfl
        · exact Nat.le_refl _
        · exact .inl ⟨rfl, rfl⟩
        · assumption
        · omega
        · omega
        · (simp [Nat.blt_eq]; omega)
        · omega
        · omega
        · assumption
        · assumption
        · assumption
        · assumption
        · assumption
        · assumption
        · (simp [Nat.blt_eq]; omega)
        · exact eqF hk2n
        · exact eqF hk1
        · exact eqF hk0
        · (simp [Nat.blt_eq]; omega)
        · (simp [Nat.blt_eq]; omega)
        · (simp [Nat.blt_eq]; omega)
      | 8, ho, hl, hoo, hok0, hbS, hgo =>
        obtain ⟨-, hoh, hon⟩ := hoo
        have q0 : lrow fam0 2 (fpT m f ii x).M j (0 + ((IntKind.u64.wrap (avInt (f (0 + ii) 1))).tmod (IntKind.u64.wrap (Int.ofNat x.n))).toNat) 0 = AV.nilp := (hl 0).trans rfl
        have q1 : lrow fam0 2 (fpT m f ii x).M j (0 + ((IntKind.u64.wrap (avInt (f (0 + ii) 1))).tmod (IntKind.u64.wrap (Int.ofNat x.n))).toNat) 1 = AV.ptr 900 0 0 := (hl 1).trans rfl
        have q2 : lrow fam0 2 (fpT m f ii x).M j (0 + ((IntKind.u64.wrap (avInt (f (0 + ii) 1))).tmod (IntKind.u64.wrap (Int.ofNat x.n))).toNat) 2 = AV.ptr 901 0 0 := (hl 2).trans rfl
        clear hl
        have hcd : dCasD (dOf x.R.D.n (wdF x.R.D.W)) 0 0 0 hh = casD x.S.M 0 0 0 hh := (hb.agr.casD _ _ _ _).symm
        by_cases hc : casD x.S.M 0 0 0 hh = true
        ·
          have hok := hnx (gPut x (mCas x.S 0 0 0 hh (hHead sl (IntKind.u64.wrap (hTag hh + 1)))) (rCas x.R 0 0 0 hh (hHead sl (IntKind.u64.wrap (hTag hh + 1)))) j (FO.mk 5 hh nx n sl)) (by rw [hgo]; unfold fpDo foO foS foR; (try simp only []); rw [if_pos hc]; (try rfl))
          have hcl : ((fpT m f (ii + 1) (gPut x (mCas x.S 0 0 0 hh (hHead sl (IntKind.u64.wrap (hTag hh + 1)))) (rCas x.R 0 0 0 hh (hHead sl (IntKind.u64.wrap (hTag hh + 1)))) j (FO.mk 5 hh nx n sl))).M j).cells = ((fpT m f ii x).M j).cells := by show (fpMb (if j = j then (FO.mk 5 hh nx n sl) else x.O j)).cells = (fpMb (x.O j)).cells; rw [if_pos rfl, ho]; (try rfl)
          have hne : ∀ i, i ≠ j → (fpT m f (ii + 1) (gPut x (mCas x.S 0 0 0 hh (hHead sl (IntKind.u64.wrap (hTag hh + 1)))) (rCas x.R 0 0 0 hh (hHead sl (IntKind.u64.wrap (hTag hh + 1)))) j (FO.mk 5 hh nx n sl))).M i = (fpT m f ii x).M i := fun i hi => by show fpMb (if i = j then _ else x.O i) = _; rw [if_neg hi]; rfl
          refine fam_norm (F := fpF) (s0 := fpU m f q h) (X := Nat × GX FO) (T := fun z => fpT m f z.1 z.2) (x := (ii, x)) (ii + 1, (gPut x (mCas x.S 0 0 0 hh (hHead sl (IntKind.u64.wrap (hTag hh + 1)))) (rCas x.R 0 0 0 hh (hHead sl (IntKind.u64.wrap (hTag hh + 1)))) j (FO.mk 5 hh nx n sl))) j true true (f8a_1 ..) (ob_cons rfl (ob_cons rfl (ob_cons rfl (ob_cons rfl (ob_cons rfl (ob_cons rfl (ob_cons ?_ (ob_cons rfl (ob_cons ?_ (ob_cons ?_ (ob_cons ?_ (ob_cons ?_ (ob_cons ?_ (ob_cons ?_ (ob_cons rfl (ob_cons ?_ (ob_cons ?_ (ob_cons rfl (ob_cons rfl (ob_cons rfl (ob_cons rfl (ob_cons rfl (ob_cons (Nat.le_refl _) (ob_cons (.inl ⟨rfl, rfl⟩) (ob_cons rfl (ob_cons (Nat.le_refl _) (ob_cons (.inl ⟨rfl, rfl⟩) (ob_cons ?_ (ob_cons rfl (ob_cons rfl (ob_cons rfl (ob_cons rfl (ob_cons ?_ (ob_cons ?_ (ob_cons ?_ (ob_cons ?_ (ob_cons rfl (ob_cons ?_ (ob_cons rfl (ob_cons ?_ (ob_cons rfl (ob_cons rfl (ob_cons rfl (ob_cons rfl (ob_cons ?_ (ob_cons ?_ (ob_cons ?_ (ob_cons rfl (ob_cons ?_ (ob_cons ?_ (ob_cons ?_ (ob_cons ?_ (ob_cons (Int.le_refl _) (ob_cons (tabIs_self _) (ob_cons ?_ (ob_cons ?_ (ob_cons (tabIs_self _) (ob_cons ?_ (ob_cons ?_ (ob_cons ?_ (ob_cons (Nat.le_refl _) (ob_cons ?_ (ob_cons (Int.le_refl _) (ob_cons ?_ (ob_cons ?_ (ob_cons ?_ (ob_cons ?_ (ob_cons ?_ (ob_cons ?_ (ob_cons ?_ (ob_cons ?_ (ob_cons ?_ (ob_cons ?_ (ob_cons ?_ (ob_cons ?_ (ob_cons ?_ (ob_cons ?_ (ob_cons ?_ (ob_cons ?_ (ob_cons ?_ ob_nil)))))))))))))))))))))))))))))))))))))))))))))))))))))))))))))))))))))))))))))))) (fun _ => hjn) (by show fpMb (x.O j) = _; rw [ho]) hok (by show m - (ii + 1) < m - ii; omega) (by show fpMb (if j = j then _ else _) = _; rw [if_pos rfl]) (.inl ⟨rfl, hjn⟩) (fun i hi hne => ⟨hi, (by show fpMb (if i = j then _ else _) = fpMb _; rw [if_neg hne])⟩)
          · exact rfl
          · assumption
          · exact rfl
          · exact rfl
          · exact rfl
          · exact rfl
          · exact rfl
          · exact Nat.le_refl _
          · exact fg_do (F := fpF) rfl rfl (fun i => fpMb_f _) rfl (M := (fpT m f ii x).M) (j := j) hcl hne rfl
          · exact rfl
          · exact rfl
          · exact rfl
          · exact rfl
          · exact fun _ => rfl
          · exact rfl
          · exact rfl
          · exact rfl
          · exact rfl
          · exact rfl
          · exact Nat.le_refl _
          · exact .inl ⟨rfl, rfl⟩
          · assumption
          · (show (!casD x.S.M 0 0 0 hh) = false; rw [hc]; rfl)
          · exact (w64_r _).1
          · exact (w64_r _).2
          · omega
          · omega
          · (rw [hcd]; exact hc)
          · (simp [Nat.blt_eq]; omega)
          · exact (w64_r _).1
          · exact (w64_r _).2
          · omega
          · omega
          · assumption
          · assumption
          · assumption
          · assumption
          · assumption
          · assumption
          · (simp [Nat.blt_eq]; omega)
          · exact eqF hk2n
          · exact eqF hk1
          · exact eqF hk0
          · (simp [Nat.blt_eq]; omega)
          · (simp [Nat.blt_eq]; omega)
          · (simp [Nat.blt_eq]; omega)
        ·
          have hcf : casD x.S.M 0 0 0 hh = false := by simpa using hc
          have hok := hnx (gPut x (mCas x.S 0 0 0 hh (hHead sl (IntKind.u64.wrap (hTag hh + 1)))) (rCas x.R 0 0 0 hh (hHead sl (IntKind.u64.wrap (hTag hh + 1)))) j (FO.mk 6 hh nx n sl)) (by rw [hgo]; unfold fpDo foO foS foR; (try simp only []); rw [if_neg hc]; (try rfl))
          have hcl : ((fpT m f (ii + 1) (gPut x (mCas x.S 0 0 0 hh (hHead sl (IntKind.u64.wrap (hTag hh + 1)))) (rCas x.R 0 0 0 hh (hHead sl (IntKind.u64.wrap (hTag hh + 1)))) j (FO.mk 6 hh nx n sl))).M j).cells = ((fpT m f ii x).M j).cells := by show (fpMb (if j = j then (FO.mk 6 hh nx n sl) else x.O j)).cells = (fpMb (x.O j)).cells; rw [if_pos rfl, ho]; (try rfl)
          have hne : ∀ i, i ≠ j → (fpT m f (ii + 1) (gPut x (mCas x.S 0 0 0 hh (hHead sl (IntKind.u64.wrap (hTag hh + 1)))) (rCas x.R 0 0 0 hh (hHead sl (IntKind.u64.wrap (hTag hh + 1)))) j (FO.mk 6 hh nx n sl))).M i = (fpT m f ii x).M i := fun i hi => by show fpMb (if i = j then _ else x.O i) = _; rw [if_neg hi]; rfl
          refine fam_norm (F := fpF) (s0 := fpU m f q h) (X := Nat × GX FO) (T := fun z => fpT m f z.1 z.2) (x := (ii, x)) (ii + 1, (gPut x (mCas x.S 0 0 0 hh (hHead sl (IntKind.u64.wrap (hTag hh + 1)))) (rCas x.R 0 0 0 hh (hHead sl (IntKind.u64.wrap (hTag hh + 1)))) j (FO.mk 6 hh nx n sl))) j true true (f8b_1 ..) (ob_cons rfl (ob_cons rfl (ob_cons rfl (ob_cons rfl (ob_cons rfl (ob_cons rfl (ob_cons ?_ (ob_cons rfl (ob_cons ?_ (ob_cons ?_ (ob_cons ?_ (ob_cons ?_ (ob_cons ?_ (ob_cons ?_ (ob_cons rfl (ob_cons ?_ (ob_cons ?_ (ob_cons rfl (ob_cons rfl (ob_cons rfl (ob_cons rfl (ob_cons rfl (ob_cons (Nat.le_refl _) (ob_cons (.inl ⟨rfl, rfl⟩) (ob_cons rfl (ob_cons (Nat.le_refl _) (ob_cons (.inl ⟨rfl, rfl⟩) (ob_cons ?_ (ob_cons rfl (ob_cons rfl (ob_cons rfl (ob_cons rfl (ob_cons ?_ (ob_cons ?_ (ob_cons ?_ (ob_cons ?_ (ob_cons rfl (ob_cons ?_ (ob_cons rfl (ob_cons ?_ (ob_cons rfl (ob_cons rfl (ob_cons rfl (ob_cons rfl (ob_cons ?_ (ob_cons ?_ (ob_cons ?_ (ob_cons rfl (ob_cons ?_ (ob_cons ?_ (ob_cons ?_ (ob_cons ?_ (ob_cons (Int.le_refl _) (ob_cons (tabIs_self _) (ob_cons ?_ (ob_cons ?_ (ob_cons (tabIs_self _) (ob_cons ?_ (ob_cons ?_ (ob_cons ?_ (ob_cons (Nat.le_refl _) (ob_cons ?_ (ob_cons (Int.le_refl _) (ob_cons ?_ (ob_cons ?_ (ob_cons ?_ (ob_cons ?_ (ob_cons ?_ (ob_cons ?_ (ob_cons ?_ (ob_cons ?_ (ob_cons ?_ (ob_cons ?_ (ob_cons ?_ (ob_cons ?_ (ob_cons ?_ (ob_cons ?_ (ob_cons ?_ (ob_cons ?_ (ob_cons ?_ ob_nil)))))))))))))))))))))))))))))))))))))))))))))))))))))))))))))))))))))))))))))))) (fun _ => hjn) (by show fpMb (x.O j) = _; rw [ho]) hok (by show m - (ii + 1) < m - ii; omega) (by show fpMb (if j = j then _ else _) = _; rw [if_pos rfl]) (.inl ⟨rfl, hjn⟩) (fun i hi hne => ⟨hi, (by show fpMb (if i = j then _ else _) = fpMb _; rw [if_neg hne])⟩)
          · exact rfl
          · assumption
          · exact rfl
          · exact rfl
          · exact rfl
          · exact rfl
          · exact rfl
          · exact Nat.le_refl _
          · exact fg_do (F := fpF) rfl rfl (fun i => fpMb_f _) rfl (M := (fpT m f ii x).M) (j := j) hcl hne rfl
          · exact rfl
          · exact rfl
          · exact rfl
          · exact rfl
          · exact fun _ => rfl
          · exact rfl
          · exact rfl
          · exact rfl
          · exact rfl
          · exact rfl
          · exact Nat.le_refl _
          · exact .inl ⟨rfl, rfl⟩
          · assumption
          · (show (!casD x.S.M 0 0 0 hh) = true; rw [hcf]; rfl)
          · exact (w64_r _).1
          · exact (w64_r _).2
          · omega
          · omega
          · (rw [hcd]; exact hcf)
          · (simp [Nat.blt_eq]; omega)
          · exact (w64_r _).1
          · exact (w64_r _).2
          · omega
          · omega
          · assumption
          · assumption
          · assumption
          · assumption
          · assumption
          · assumption
          · (simp [Nat.blt_eq]; omega)
          · exact eqF hk2n
          · exact eqF hk1
          · exact eqF hk0
          · (simp [Nat.blt_eq]; omega)
          · (simp [Nat.blt_eq]; omega)
          · (simp [Nat.blt_eq]; omega)
      | k + 9, ho, hl, hoo, hok0, hbS, hgo => exact absurd hoo.t (by show ¬ k + 9 ≤ 8; omega)
    · obtain rfl : m = ii := by omega
      rw [← hx]
      refine fam_exit (F := fpF) (s0 := fpU m f q h) (X := Nat × GX FO) (T := fun z => fpT m f z.1 z.2) (x := (m, x)) x.n false (fpe_1 ..) (by simp) (ob_cons rfl (ob_cons rfl (ob_cons rfl (ob_cons rfl (ob_cons rfl (ob_cons rfl (ob_cons rfl (ob_cons rfl (ob_cons rfl (ob_cons rfl (ob_cons (Nat.le_refl _) (ob_cons (.inl ⟨rfl, rfl⟩) (ob_cons rfl (ob_cons (Nat.le_refl _) (ob_cons (.inl ⟨rfl, rfl⟩) (ob_cons rfl (ob_cons rfl (ob_cons rfl (ob_cons rfl (ob_cons rfl (ob_cons rfl (ob_cons rfl (ob_cons rfl (ob_cons (fun _ => rfl) (ob_cons rfl (ob_cons rfl (ob_cons rfl (ob_cons rfl (ob_cons rfl (ob_cons rfl (ob_cons rfl (ob_cons rfl (ob_cons rfl (ob_cons rfl (ob_cons rfl (ob_cons rfl (ob_cons (Nat.le_refl _) (ob_cons (.inl ⟨rfl, rfl⟩) (ob_cons ?_ ob_nil))))))))))))))))))))))))))))))))))))))) (fun h => by cases h) rfl
      · (simp; done)
end Go.Proofs.YtlpcdjhojfopjaaDoor
