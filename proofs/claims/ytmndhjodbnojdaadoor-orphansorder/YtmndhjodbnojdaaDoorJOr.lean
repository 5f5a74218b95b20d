/-
  OrphansOrder: the outer loop.
-/
import Derived.Test.YtmndhjodbnojdaaDoorJOrDef
set_option linter.unusedSimpArgs false
set_option linter.unusedVariables false
namespace Go.Proofs.YtmndhjodbnojdaaDoor
open Go.Ev
theorem opa_1 (m : Nat) (f : Nat → Nat → AV) (p : Int) (ii : Nat) : roundB EOo 3000 oplL ((oplU m f p).hp) [(5, Src.nm 5), (4, Src.nm 4)] (oplT m f p ii) [Hint.b true, Hint.lpl [0, 1, 4, 5, 6, 7, 8, 9, 10] [1, 3, 5, 4] 1 (Ex.exit 2) (ophX m f p (owN p f ii).nw (owN p f ii).nn ii ii).tmps (ophX m f p (owN p f ii).nw (owN p f ii).nn ii ii).hp.heap 0 [], Hint.b true] (oplT m f p (ii + 1)) =
 some (Ex.norm, [(0 : Nat) = 0,
 m = m,
 (none : Option Nat) = none,
 p = p,
 (0 : Nat) = 0,
 (0 : Nat) = 0,
 (0 : Nat) = 0,
 (owN p f ii).nw = (owN p f (ii + 1)).nw,
 (none : Option Nat) = none,
 (0 : Nat) = 0,
 (owN p f ii).nn = (owN p f (ii + 1)).nn,
 (none : Option Nat) = none,
 IntKind.i64.wrap (Int.ofNat ii + 1) = Int.ofNat (ii + 1),
 true = true,
 (1 : Nat) ≤ (1 : Nat),
 tabF tab = tabF tab ∧ plainSh (List.map kindOfV tab) = true ∨ ∀ (i : Nat), i < 1 → rowOb (List.map kindOfV tab) 0 (tabF tab i) (tabF tab i),
 true = true,
 m ≤ m,
 f = f ∧ plainSh [CK.int IntKind.u8] = true ∨ ∀ (i : Nat), i < m → rowOb [CK.int IntKind.u8] 0 (f i) (f i),
 (owN p f ii).S.st = (owN p f (ii + 1)).S.st,
 (owN p f ii).S.L.c = (owN p f (ii + 1)).S.L.c,
 (owN p f ii).S.L.k = (owN p f (ii + 1)).S.L.k,
 (owN p f ii).S.L.a = (owN p f (ii + 1)).S.L.a,
 (owN p f ii).S.L.f = (owN p f (ii + 1)).S.L.f,
 (owN p f ii).S.L.w = (owN p f (ii + 1)).S.L.w,
 (owN p f ii).S.L.i = (owN p f (ii + 1)).S.L.i,
 (owN p f ii).S.L.d = (owN p f (ii + 1)).S.L.d,
 ∀ (k : List Int), (owN p f ii).S.M k = (owN p f (ii + 1)).S.M k,
 false = false,
 (owN p f (ii + 1)).nn ≤ (owN p f ii).nn,
 yF (owN p f (ii + 1)).En = yF (owN p f ii).En ∧ plainSh [CK.int IntKind.i64, CK.int IntKind.u32, CK.bool, CK.int IntKind.u64, CK.int IntKind.u64, CK.int IntKind.u64] = true ∨ ∀ (i : Nat), i < (owN p f (ii + 1)).nn → rowOb [CK.int IntKind.i64, CK.int IntKind.u32, CK.bool, CK.int IntKind.u64, CK.int IntKind.u64, CK.int IntKind.u64] 0 (yF (owN p f ii).En i) (yF (owN p f (ii + 1)).En i),
 false = false,
 (owN p f (ii + 1)).nw ≤ (owN p f ii).nw,
 yF (owN p f (ii + 1)).Ew = yF (owN p f ii).Ew ∧ plainSh [CK.int IntKind.i64, CK.int IntKind.u32, CK.bool, CK.int IntKind.u64, CK.int IntKind.u64, CK.int IntKind.u64] = true ∨ ∀ (i : Nat), i < (owN p f (ii + 1)).nw → rowOb [CK.int IntKind.i64, CK.int IntKind.u32, CK.bool, CK.int IntKind.u64, CK.int IntKind.u64, CK.int IntKind.u64] 0 (yF (owN p f ii).Ew i) (yF (owN p f (ii + 1)).Ew i),
 hadF f ii ii = true,
 ophLP m f p (owN p f ii).nw (owN p f ii).nn ii,
 decide (Int.ofNat ii < Int.ofNat m) = true]) := by kernel_rfl
theorem opb_1 (m : Nat) (f : Nat → Nat → AV) (p : Int) (ii : Nat) : roundB EOo 3000 oplL ((oplU m f p).hp) [(5, Src.nm 5), (4, Src.nm 7)] (oplT m f p ii) [Hint.b true, Hint.lpl [0, 1, 4, 5, 6, 7, 8, 9, 10] [1, 3, 5, 4] 1 (Ex.exit 2) (ophX m f p (owN p f ii).nw (owN p f ii).nn ii ii).tmps (ophX m f p (owN p f ii).nw (owN p f ii).nn ii ii).hp.heap 0 [], Hint.b false, Hint.b false] (oplT m f p (ii + 1)) =
 some (Ex.norm, [(0 : Nat) = 0,
 m = m,
 (none : Option Nat) = none,
 p = p,
 (0 : Nat) = 0,
 (0 : Nat) = 0,
 (0 : Nat) = 0,
 (owN p f ii).nw = (owN p f (ii + 1)).nw,
 (none : Option Nat) = none,
 (0 : Nat) = 0,
 (owN p f ii).nn + 1 = (owN p f (ii + 1)).nn,
 (none : Option Nat) = none,
 IntKind.i64.wrap (Int.ofNat ii + 1) = Int.ofNat (ii + 1),
 true = true,
 (1 : Nat) ≤ (1 : Nat),
 tabF tab = tabF tab ∧ plainSh (List.map kindOfV tab) = true ∨ ∀ (i : Nat), i < 1 → rowOb (List.map kindOfV tab) 0 (tabF tab i) (tabF tab i),
 true = true,
 m ≤ m,
 f = f ∧ plainSh [CK.int IntKind.u8] = true ∨ ∀ (i : Nat), i < m → rowOb [CK.int IntKind.u8] 0 (f i) (f i),
 (ofSX (owN p f ii).S (IntKind.i64.wrap (avInt (f (0 + ii) 0)))).st = (owN p f (ii + 1)).S.st,
 (ofSX (owN p f ii).S (IntKind.i64.wrap (avInt (f (0 + ii) 0)))).L.c = (owN p f (ii + 1)).S.L.c,
 (ofSX (owN p f ii).S (IntKind.i64.wrap (avInt (f (0 + ii) 0)))).L.k = (owN p f (ii + 1)).S.L.k,
 (ofSX (owN p f ii).S (IntKind.i64.wrap (avInt (f (0 + ii) 0)))).L.a = (owN p f (ii + 1)).S.L.a,
 (ofSX (owN p f ii).S (IntKind.i64.wrap (avInt (f (0 + ii) 0)))).L.f = (owN p f (ii + 1)).S.L.f,
 (ofSX (owN p f ii).S (IntKind.i64.wrap (avInt (f (0 + ii) 0)))).L.w = (owN p f (ii + 1)).S.L.w,
 (ofSX (owN p f ii).S (IntKind.i64.wrap (avInt (f (0 + ii) 0)))).L.i = (owN p f (ii + 1)).S.L.i,
 (ofSX (owN p f ii).S (IntKind.i64.wrap (avInt (f (0 + ii) 0)))).L.d = (owN p f (ii + 1)).S.L.d,
 ∀ (k : List Int), (ofSX (owN p f ii).S (IntKind.i64.wrap (avInt (f (0 + ii) 0)))).M k = (owN p f (ii + 1)).S.M k,
 false = false,
 (owN p f (ii + 1)).nn ≤ (owN p f ii).nn + 1,
 (yF (owN p f (ii + 1)).En = fun i j => if i < (owN p f ii).nn then yF (owN p f ii).En (0 + i) j else rowsOf 6 [AV.sym IntKind.i64 (ofEX (IntKind.i64.wrap (avInt (f (0 + ii) 0)))).slot, AV.sym IntKind.u32 (ofEX (IntKind.i64.wrap (avInt (f (0 + ii) 0)))).gen, AV.symb (ofEX (IntKind.i64.wrap (avInt (f (0 + ii) 0)))).mark, AV.sym IntKind.u64 (ofEX (IntKind.i64.wrap (avInt (f (0 + ii) 0)))).birth, AV.sym IntKind.u64 (ofEX (IntKind.i64.wrap (avInt (f (0 + ii) 0)))).epoch, AV.sym IntKind.u64 (ofEX (IntKind.i64.wrap (avInt (f (0 + ii) 0)))).era] (i - (owN p f ii).nn) j) ∧ plainSh [CK.int IntKind.i64, CK.int IntKind.u32, CK.bool, CK.int IntKind.u64, CK.int IntKind.u64, CK.int IntKind.u64] = true ∨ ∀ (i : Nat), i < (owN p f (ii + 1)).nn → rowOb [CK.int IntKind.i64, CK.int IntKind.u32, CK.bool, CK.int IntKind.u64, CK.int IntKind.u64, CK.int IntKind.u64] 0 (fun j => if i < (owN p f ii).nn then yF (owN p f ii).En (0 + i) j else rowsOf 6 [AV.sym IntKind.i64 (ofEX (IntKind.i64.wrap (avInt (f (0 + ii) 0)))).slot, AV.sym IntKind.u32 (ofEX (IntKind.i64.wrap (avInt (f (0 + ii) 0)))).gen, AV.symb (ofEX (IntKind.i64.wrap (avInt (f (0 + ii) 0)))).mark, AV.sym IntKind.u64 (ofEX (IntKind.i64.wrap (avInt (f (0 + ii) 0)))).birth, AV.sym IntKind.u64 (ofEX (IntKind.i64.wrap (avInt (f (0 + ii) 0)))).epoch, AV.sym IntKind.u64 (ofEX (IntKind.i64.wrap (avInt (f (0 + ii) 0)))).era] (i - (owN p f ii).nn) j) (yF (owN p f (ii + 1)).En i),
 false = false,
 (owN p f (ii + 1)).nw ≤ (owN p f ii).nw,
 yF (owN p f (ii + 1)).Ew = yF (owN p f ii).Ew ∧ plainSh [CK.int IntKind.i64, CK.int IntKind.u32, CK.bool, CK.int IntKind.u64, CK.int IntKind.u64, CK.int IntKind.u64] = true ∨ ∀ (i : Nat), i < (owN p f (ii + 1)).nw → rowOb [CK.int IntKind.i64, CK.int IntKind.u32, CK.bool, CK.int IntKind.u64, CK.int IntKind.u64, CK.int IntKind.u64] 0 (yF (owN p f ii).Ew i) (yF (owN p f (ii + 1)).Ew i),
 decide (Int.ofNat ((owN p f ii).nn + 1) > (IntKind.i64.wrap p).tmod 5) = false,
 (((owN p f ii).nn + 1) * 40).ble 70368744177664 = true,
 (0 + (owN p f ii).nn).ble (owN p f ii).nn = true,
 tabF tab = tabF tab,
 (0 + ii).blt m = true,
 (ii.blt m && decide (0 ≤ Int.ofNat ii)) = true,
 hadF f ii ii = false,
 ophLP m f p (owN p f ii).nw (owN p f ii).nn ii,
 decide (Int.ofNat ii < Int.ofNat m) = true]) := by kernel_rfl
theorem opc_1 (m : Nat) (f : Nat → Nat → AV) (p : Int) (ii : Nat) : roundB EOo 3000 oplL ((oplU m f p).hp) [(5, Src.nm 9), (4, Src.nil 6)] (oplT m f p ii) [Hint.b true, Hint.lpl [0, 1, 4, 5, 6, 7, 8, 9, 10] [1, 3, 5, 4] 1 (Ex.exit 2) (ophX m f p (owN p f ii).nw (owN p f ii).nn ii ii).tmps (ophX m f p (owN p f ii).nw (owN p f ii).nn ii ii).hp.heap 0 [], Hint.b false, Hint.b true, Hint.b false, Hint.b false, Hint.b true] (oplT m f p (ii + 1)) =
 some (Ex.norm, [(0 : Nat) = 0,
 m = m,
 (none : Option Nat) = none,
 p = p,
 (0 : Nat) = 0,
 (0 : Nat) = 0,
 (0 : Nat) = 0,
 (owN p f ii).nn + 1 + (owN p f ii).nw = (owN p f (ii + 1)).nw,
 (none : Option Nat) = none,
 (0 : Nat) = 0,
 0 = (owN p f (ii + 1)).nn,
 (none : Option Nat) = none,
 IntKind.i64.wrap (Int.ofNat ii + 1) = Int.ofNat (ii + 1),
 true = true,
 (1 : Nat) ≤ (1 : Nat),
 tabF tab = tabF tab ∧ plainSh (List.map kindOfV tab) = true ∨ ∀ (i : Nat), i < 1 → rowOb (List.map kindOfV tab) 0 (tabF tab i) (tabF tab i),
 true = true,
 m ≤ m,
 f = f ∧ plainSh [CK.int IntKind.u8] = true ∨ ∀ (i : Nat), i < m → rowOb [CK.int IntKind.u8] 0 (f i) (f i),
 (gvnY ((owN p f ii).nn + 1) (yK fun i j => if i < (owN p f ii).nn then yF (owN p f ii).En (0 + i) j else rowsOf 6 [AV.sym IntKind.i64 (ofEX (IntKind.i64.wrap (avInt (f (0 + ii) 0)))).slot, AV.sym IntKind.u32 (ofEX (IntKind.i64.wrap (avInt (f (0 + ii) 0)))).gen, AV.symb (ofEX (IntKind.i64.wrap (avInt (f (0 + ii) 0)))).mark, AV.sym IntKind.u64 (ofEX (IntKind.i64.wrap (avInt (f (0 + ii) 0)))).birth, AV.sym IntKind.u64 (ofEX (IntKind.i64.wrap (avInt (f (0 + ii) 0)))).epoch, AV.sym IntKind.u64 (ofEX (IntKind.i64.wrap (avInt (f (0 + ii) 0)))).era] (i - (owN p f ii).nn) j) (ofSX (owN p f ii).S (IntKind.i64.wrap (avInt (f (0 + ii) 0))))).st = (owN p f (ii + 1)).S.st,
 (gvnY ((owN p f ii).nn + 1) (yK fun i j => if i < (owN p f ii).nn then yF (owN p f ii).En (0 + i) j else rowsOf 6 [AV.sym IntKind.i64 (ofEX (IntKind.i64.wrap (avInt (f (0 + ii) 0)))).slot, AV.sym IntKind.u32 (ofEX (IntKind.i64.wrap (avInt (f (0 + ii) 0)))).gen, AV.symb (ofEX (IntKind.i64.wrap (avInt (f (0 + ii) 0)))).mark, AV.sym IntKind.u64 (ofEX (IntKind.i64.wrap (avInt (f (0 + ii) 0)))).birth, AV.sym IntKind.u64 (ofEX (IntKind.i64.wrap (avInt (f (0 + ii) 0)))).epoch, AV.sym IntKind.u64 (ofEX (IntKind.i64.wrap (avInt (f (0 + ii) 0)))).era] (i - (owN p f ii).nn) j) (ofSX (owN p f ii).S (IntKind.i64.wrap (avInt (f (0 + ii) 0))))).L.c = (owN p f (ii + 1)).S.L.c,
 (gvnY ((owN p f ii).nn + 1) (yK fun i j => if i < (owN p f ii).nn then yF (owN p f ii).En (0 + i) j else rowsOf 6 [AV.sym IntKind.i64 (ofEX (IntKind.i64.wrap (avInt (f (0 + ii) 0)))).slot, AV.sym IntKind.u32 (ofEX (IntKind.i64.wrap (avInt (f (0 + ii) 0)))).gen, AV.symb (ofEX (IntKind.i64.wrap (avInt (f (0 + ii) 0)))).mark, AV.sym IntKind.u64 (ofEX (IntKind.i64.wrap (avInt (f (0 + ii) 0)))).birth, AV.sym IntKind.u64 (ofEX (IntKind.i64.wrap (avInt (f (0 + ii) 0)))).epoch, AV.sym IntKind.u64 (ofEX (IntKind.i64.wrap (avInt (f (0 + ii) 0)))).era] (i - (owN p f ii).nn) j) (ofSX (owN p f ii).S (IntKind.i64.wrap (avInt (f (0 + ii) 0))))).L.k = (owN p f (ii + 1)).S.L.k,
 (gvnY ((owN p f ii).nn + 1) (yK fun i j => if i < (owN p f ii).nn then yF (owN p f ii).En (0 + i) j else rowsOf 6 [AV.sym IntKind.i64 (ofEX (IntKind.i64.wrap (avInt (f (0 + ii) 0)))).slot, AV.sym IntKind.u32 (ofEX (IntKind.i64.wrap (avInt (f (0 + ii) 0)))).gen, AV.symb (ofEX (IntKind.i64.wrap (avInt (f (0 + ii) 0)))).mark, AV.sym IntKind.u64 (ofEX (IntKind.i64.wrap (avInt (f (0 + ii) 0)))).birth, AV.sym IntKind.u64 (ofEX (IntKind.i64.wrap (avInt (f (0 + ii) 0)))).epoch, AV.sym IntKind.u64 (ofEX (IntKind.i64.wrap (avInt (f (0 + ii) 0)))).era] (i - (owN p f ii).nn) j) (ofSX (owN p f ii).S (IntKind.i64.wrap (avInt (f (0 + ii) 0))))).L.a = (owN p f (ii + 1)).S.L.a,
 (gvnY ((owN p f ii).nn + 1) (yK fun i j => if i < (owN p f ii).nn then yF (owN p f ii).En (0 + i) j else rowsOf 6 [AV.sym IntKind.i64 (ofEX (IntKind.i64.wrap (avInt (f (0 + ii) 0)))).slot, AV.sym IntKind.u32 (ofEX (IntKind.i64.wrap (avInt (f (0 + ii) 0)))).gen, AV.symb (ofEX (IntKind.i64.wrap (avInt (f (0 + ii) 0)))).mark, AV.sym IntKind.u64 (ofEX (IntKind.i64.wrap (avInt (f (0 + ii) 0)))).birth, AV.sym IntKind.u64 (ofEX (IntKind.i64.wrap (avInt (f (0 + ii) 0)))).epoch, AV.sym IntKind.u64 (ofEX (IntKind.i64.wrap (avInt (f (0 + ii) 0)))).era] (i - (owN p f ii).nn) j) (ofSX (owN p f ii).S (IntKind.i64.wrap (avInt (f (0 + ii) 0))))).L.f = (owN p f (ii + 1)).S.L.f,
 (gvnY ((owN p f ii).nn + 1) (yK fun i j => if i < (owN p f ii).nn then yF (owN p f ii).En (0 + i) j else rowsOf 6 [AV.sym IntKind.i64 (ofEX (IntKind.i64.wrap (avInt (f (0 + ii) 0)))).slot, AV.sym IntKind.u32 (ofEX (IntKind.i64.wrap (avInt (f (0 + ii) 0)))).gen, AV.symb (ofEX (IntKind.i64.wrap (avInt (f (0 + ii) 0)))).mark, AV.sym IntKind.u64 (ofEX (IntKind.i64.wrap (avInt (f (0 + ii) 0)))).birth, AV.sym IntKind.u64 (ofEX (IntKind.i64.wrap (avInt (f (0 + ii) 0)))).epoch, AV.sym IntKind.u64 (ofEX (IntKind.i64.wrap (avInt (f (0 + ii) 0)))).era] (i - (owN p f ii).nn) j) (ofSX (owN p f ii).S (IntKind.i64.wrap (avInt (f (0 + ii) 0))))).L.w = (owN p f (ii + 1)).S.L.w,
 (gvnY ((owN p f ii).nn + 1) (yK fun i j => if i < (owN p f ii).nn then yF (owN p f ii).En (0 + i) j else rowsOf 6 [AV.sym IntKind.i64 (ofEX (IntKind.i64.wrap (avInt (f (0 + ii) 0)))).slot, AV.sym IntKind.u32 (ofEX (IntKind.i64.wrap (avInt (f (0 + ii) 0)))).gen, AV.symb (ofEX (IntKind.i64.wrap (avInt (f (0 + ii) 0)))).mark, AV.sym IntKind.u64 (ofEX (IntKind.i64.wrap (avInt (f (0 + ii) 0)))).birth, AV.sym IntKind.u64 (ofEX (IntKind.i64.wrap (avInt (f (0 + ii) 0)))).epoch, AV.sym IntKind.u64 (ofEX (IntKind.i64.wrap (avInt (f (0 + ii) 0)))).era] (i - (owN p f ii).nn) j) (ofSX (owN p f ii).S (IntKind.i64.wrap (avInt (f (0 + ii) 0))))).L.i = (owN p f (ii + 1)).S.L.i,
 (gvnY ((owN p f ii).nn + 1) (yK fun i j => if i < (owN p f ii).nn then yF (owN p f ii).En (0 + i) j else rowsOf 6 [AV.sym IntKind.i64 (ofEX (IntKind.i64.wrap (avInt (f (0 + ii) 0)))).slot, AV.sym IntKind.u32 (ofEX (IntKind.i64.wrap (avInt (f (0 + ii) 0)))).gen, AV.symb (ofEX (IntKind.i64.wrap (avInt (f (0 + ii) 0)))).mark, AV.sym IntKind.u64 (ofEX (IntKind.i64.wrap (avInt (f (0 + ii) 0)))).birth, AV.sym IntKind.u64 (ofEX (IntKind.i64.wrap (avInt (f (0 + ii) 0)))).epoch, AV.sym IntKind.u64 (ofEX (IntKind.i64.wrap (avInt (f (0 + ii) 0)))).era] (i - (owN p f ii).nn) j) (ofSX (owN p f ii).S (IntKind.i64.wrap (avInt (f (0 + ii) 0))))).L.d = (owN p f (ii + 1)).S.L.d,
 ∀ (k : List Int), (gvnY ((owN p f ii).nn + 1) (yK fun i j => if i < (owN p f ii).nn then yF (owN p f ii).En (0 + i) j else rowsOf 6 [AV.sym IntKind.i64 (ofEX (IntKind.i64.wrap (avInt (f (0 + ii) 0)))).slot, AV.sym IntKind.u32 (ofEX (IntKind.i64.wrap (avInt (f (0 + ii) 0)))).gen, AV.symb (ofEX (IntKind.i64.wrap (avInt (f (0 + ii) 0)))).mark, AV.sym IntKind.u64 (ofEX (IntKind.i64.wrap (avInt (f (0 + ii) 0)))).birth, AV.sym IntKind.u64 (ofEX (IntKind.i64.wrap (avInt (f (0 + ii) 0)))).epoch, AV.sym IntKind.u64 (ofEX (IntKind.i64.wrap (avInt (f (0 + ii) 0)))).era] (i - (owN p f ii).nn) j) (ofSX (owN p f ii).S (IntKind.i64.wrap (avInt (f (0 + ii) 0))))).M k = (owN p f (ii + 1)).S.M k,
 (owN p f (ii + 1)).nn = 0,
 false = false,
 (owN p f (ii + 1)).nw ≤ (owN p f ii).nn + 1 + (owN p f ii).nw,
 (yF (owN p f (ii + 1)).Ew = fun i j => if i < (owN p f ii).nn + 1 then if 0 + (0 + i) < (owN p f ii).nn then yF (owN p f ii).En (0 + (0 + (0 + i))) j else rowsOf 6 [AV.sym IntKind.i64 (ofEX (IntKind.i64.wrap (avInt (f (0 + ii) 0)))).slot, AV.sym IntKind.u32 (ofEX (IntKind.i64.wrap (avInt (f (0 + ii) 0)))).gen, AV.symb (ofEX (IntKind.i64.wrap (avInt (f (0 + ii) 0)))).mark, AV.sym IntKind.u64 (ofEX (IntKind.i64.wrap (avInt (f (0 + ii) 0)))).birth, AV.sym IntKind.u64 (ofEX (IntKind.i64.wrap (avInt (f (0 + ii) 0)))).epoch, AV.sym IntKind.u64 (ofEX (IntKind.i64.wrap (avInt (f (0 + ii) 0)))).era] (0 + (0 + i) - (owN p f ii).nn) j else yF (owN p f ii).Ew (0 + (i - ((owN p f ii).nn + 1))) j) ∧ plainSh [CK.int IntKind.i64, CK.int IntKind.u32, CK.bool, CK.int IntKind.u64, CK.int IntKind.u64, CK.int IntKind.u64] = true ∨ ∀ (i : Nat), i < (owN p f (ii + 1)).nw → rowOb [CK.int IntKind.i64, CK.int IntKind.u32, CK.bool, CK.int IntKind.u64, CK.int IntKind.u64, CK.int IntKind.u64] 0 (fun j => if i < (owN p f ii).nn + 1 then if 0 + (0 + i) < (owN p f ii).nn then yF (owN p f ii).En (0 + (0 + (0 + i))) j else rowsOf 6 [AV.sym IntKind.i64 (ofEX (IntKind.i64.wrap (avInt (f (0 + ii) 0)))).slot, AV.sym IntKind.u32 (ofEX (IntKind.i64.wrap (avInt (f (0 + ii) 0)))).gen, AV.symb (ofEX (IntKind.i64.wrap (avInt (f (0 + ii) 0)))).mark, AV.sym IntKind.u64 (ofEX (IntKind.i64.wrap (avInt (f (0 + ii) 0)))).birth, AV.sym IntKind.u64 (ofEX (IntKind.i64.wrap (avInt (f (0 + ii) 0)))).epoch, AV.sym IntKind.u64 (ofEX (IntKind.i64.wrap (avInt (f (0 + ii) 0)))).era] (0 + (0 + i) - (owN p f ii).nn) j else yF (owN p f ii).Ew (0 + (i - ((owN p f ii).nn + 1))) j) (yF (owN p f (ii + 1)).Ew i),
 (((owN p f ii).nn + 1 + (owN p f ii).nw) * 40).ble 70368744177664 = true,
 (0 + (owN p f ii).nw).ble (owN p f ii).nw = true,
 (0 + ((owN p f ii).nn + 1)).ble ((owN p f ii).nn + 1) = true,
 ((owN p f ii).nn + 1).beq 0 = false,
 (((owN p f ii).nn + 1) * 40).ble 70368744177664 = true,
 (0 + ((owN p f ii).nn + 1)).ble ((owN p f ii).nn + 1) = true,
 (!gvnB ((owN p f ii).nn + 1) (yK fun i j => if i < (owN p f ii).nn then yF (owN p f ii).En (0 + i) j else rowsOf 6 [AV.sym IntKind.i64 (ofEX (IntKind.i64.wrap (avInt (f (0 + ii) 0)))).slot, AV.sym IntKind.u32 (ofEX (IntKind.i64.wrap (avInt (f (0 + ii) 0)))).gen, AV.symb (ofEX (IntKind.i64.wrap (avInt (f (0 + ii) 0)))).mark, AV.sym IntKind.u64 (ofEX (IntKind.i64.wrap (avInt (f (0 + ii) 0)))).birth, AV.sym IntKind.u64 (ofEX (IntKind.i64.wrap (avInt (f (0 + ii) 0)))).epoch, AV.sym IntKind.u64 (ofEX (IntKind.i64.wrap (avInt (f (0 + ii) 0)))).era] (i - (owN p f ii).nn) j) (ofSX (owN p f ii).S (IntKind.i64.wrap (avInt (f (0 + ii) 0))))) = false,
 tabF tab = tabF tab,
 (owN p f ii).nn + 1 ≤ (owN p f ii).nn + 1,
 U64 (ofSX (owN p f ii).S (IntKind.i64.wrap (avInt (f (0 + ii) 0)))),
 GvMay ((owN p f ii).nn + 1) fun i j => if i < (owN p f ii).nn then yF (owN p f ii).En (0 + i) j else rowsOf 6 [AV.sym IntKind.i64 (ofEX (IntKind.i64.wrap (avInt (f (0 + ii) 0)))).slot, AV.sym IntKind.u32 (ofEX (IntKind.i64.wrap (avInt (f (0 + ii) 0)))).gen, AV.symb (ofEX (IntKind.i64.wrap (avInt (f (0 + ii) 0)))).mark, AV.sym IntKind.u64 (ofEX (IntKind.i64.wrap (avInt (f (0 + ii) 0)))).birth, AV.sym IntKind.u64 (ofEX (IntKind.i64.wrap (avInt (f (0 + ii) 0)))).epoch, AV.sym IntKind.u64 (ofEX (IntKind.i64.wrap (avInt (f (0 + ii) 0)))).era] (i - (owN p f ii).nn) j,
 IntKind.i64.wrap (Int.ofNat ((owN p f ii).nn + 1) + 2) = Int.ofNat ((owN p f ii).nn + 1) + 2,
 GvNo ((owN p f ii).nn + 1) (yK fun i j => if i < (owN p f ii).nn then yF (owN p f ii).En (0 + i) j else rowsOf 6 [AV.sym IntKind.i64 (ofEX (IntKind.i64.wrap (avInt (f (0 + ii) 0)))).slot, AV.sym IntKind.u32 (ofEX (IntKind.i64.wrap (avInt (f (0 + ii) 0)))).gen, AV.symb (ofEX (IntKind.i64.wrap (avInt (f (0 + ii) 0)))).mark, AV.sym IntKind.u64 (ofEX (IntKind.i64.wrap (avInt (f (0 + ii) 0)))).birth, AV.sym IntKind.u64 (ofEX (IntKind.i64.wrap (avInt (f (0 + ii) 0)))).epoch, AV.sym IntKind.u64 (ofEX (IntKind.i64.wrap (avInt (f (0 + ii) 0)))).era] (i - (owN p f ii).nn) j) (ofSX (owN p f ii).S (IntKind.i64.wrap (avInt (f (0 + ii) 0)))),
 decide (Int.ofNat ((owN p f ii).nn + 1) > (IntKind.i64.wrap p).tmod 5) = true,
 (((owN p f ii).nn + 1) * 40).ble 70368744177664 = true,
 (0 + (owN p f ii).nn).ble (owN p f ii).nn = true,
 tabF tab = tabF tab,
 (0 + ii).blt m = true,
 (ii.blt m && decide (0 ≤ Int.ofNat ii)) = true,
 hadF f ii ii = false,
 ophLP m f p (owN p f ii).nw (owN p f ii).nn ii,
 decide (Int.ofNat ii < Int.ofNat m) = true]) := by kernel_rfl
theorem opd_1 (m : Nat) (f : Nat → Nat → AV) (p : Int) (ii : Nat) : roundB EOo 3000 oplL ((oplU m f p).hp) [(5, Src.nm 9), (4, Src.nil 6)] (oplT m f p ii) [Hint.b true, Hint.lpl [0, 1, 4, 5, 6, 7, 8, 9, 10] [1, 3, 5, 4] 1 (Ex.exit 2) (ophX m f p (owN p f ii).nw (owN p f ii).nn ii ii).tmps (ophX m f p (owN p f ii).nw (owN p f ii).nn ii ii).hp.heap 0 [], Hint.b false, Hint.b true, Hint.b false, Hint.b false, Hint.b false] (oplT m f p (ii + 1)) =
 some (Ex.norm, [(0 : Nat) = 0,
 m = m,
 (none : Option Nat) = none,
 p = p,
 (0 : Nat) = 0,
 (0 : Nat) = 0,
 (0 : Nat) = 0,
 (owN p f ii).nn + 1 + (owN p f ii).nw = (owN p f (ii + 1)).nw,
 (none : Option Nat) = none,
 (0 : Nat) = 0,
 0 = (owN p f (ii + 1)).nn,
 (none : Option Nat) = none,
 IntKind.i64.wrap (Int.ofNat ii + 1) = Int.ofNat (ii + 1),
 true = true,
 (1 : Nat) ≤ (1 : Nat),
 tabF tab = tabF tab ∧ plainSh (List.map kindOfV tab) = true ∨ ∀ (i : Nat), i < 1 → rowOb (List.map kindOfV tab) 0 (tabF tab i) (tabF tab i),
 true = true,
 m ≤ m,
 f = f ∧ plainSh [CK.int IntKind.u8] = true ∨ ∀ (i : Nat), i < m → rowOb [CK.int IntKind.u8] 0 (f i) (f i),
 (gvnY ((owN p f ii).nn + 1) (yK fun i j => if i < (owN p f ii).nn then yF (owN p f ii).En (0 + i) j else rowsOf 6 [AV.sym IntKind.i64 (ofEX (IntKind.i64.wrap (avInt (f (0 + ii) 0)))).slot, AV.sym IntKind.u32 (ofEX (IntKind.i64.wrap (avInt (f (0 + ii) 0)))).gen, AV.symb (ofEX (IntKind.i64.wrap (avInt (f (0 + ii) 0)))).mark, AV.sym IntKind.u64 (ofEX (IntKind.i64.wrap (avInt (f (0 + ii) 0)))).birth, AV.sym IntKind.u64 (ofEX (IntKind.i64.wrap (avInt (f (0 + ii) 0)))).epoch, AV.sym IntKind.u64 (ofEX (IntKind.i64.wrap (avInt (f (0 + ii) 0)))).era] (i - (owN p f ii).nn) j) (ofSX (owN p f ii).S (IntKind.i64.wrap (avInt (f (0 + ii) 0))))).st = (owN p f (ii + 1)).S.st,
 (gvnY ((owN p f ii).nn + 1) (yK fun i j => if i < (owN p f ii).nn then yF (owN p f ii).En (0 + i) j else rowsOf 6 [AV.sym IntKind.i64 (ofEX (IntKind.i64.wrap (avInt (f (0 + ii) 0)))).slot, AV.sym IntKind.u32 (ofEX (IntKind.i64.wrap (avInt (f (0 + ii) 0)))).gen, AV.symb (ofEX (IntKind.i64.wrap (avInt (f (0 + ii) 0)))).mark, AV.sym IntKind.u64 (ofEX (IntKind.i64.wrap (avInt (f (0 + ii) 0)))).birth, AV.sym IntKind.u64 (ofEX (IntKind.i64.wrap (avInt (f (0 + ii) 0)))).epoch, AV.sym IntKind.u64 (ofEX (IntKind.i64.wrap (avInt (f (0 + ii) 0)))).era] (i - (owN p f ii).nn) j) (ofSX (owN p f ii).S (IntKind.i64.wrap (avInt (f (0 + ii) 0))))).L.c = (owN p f (ii + 1)).S.L.c,
 (gvnY ((owN p f ii).nn + 1) (yK fun i j => if i < (owN p f ii).nn then yF (owN p f ii).En (0 + i) j else rowsOf 6 [AV.sym IntKind.i64 (ofEX (IntKind.i64.wrap (avInt (f (0 + ii) 0)))).slot, AV.sym IntKind.u32 (ofEX (IntKind.i64.wrap (avInt (f (0 + ii) 0)))).gen, AV.symb (ofEX (IntKind.i64.wrap (avInt (f (0 + ii) 0)))).mark, AV.sym IntKind.u64 (ofEX (IntKind.i64.wrap (avInt (f (0 + ii) 0)))).birth, AV.sym IntKind.u64 (ofEX (IntKind.i64.wrap (avInt (f (0 + ii) 0)))).epoch, AV.sym IntKind.u64 (ofEX (IntKind.i64.wrap (avInt (f (0 + ii) 0)))).era] (i - (owN p f ii).nn) j) (ofSX (owN p f ii).S (IntKind.i64.wrap (avInt (f (0 + ii) 0))))).L.k = (owN p f (ii + 1)).S.L.k,
 (gvnY ((owN p f ii).nn + 1) (yK fun i j => if i < (owN p f ii).nn then yF (owN p f ii).En (0 + i) j else rowsOf 6 [AV.sym IntKind.i64 (ofEX (IntKind.i64.wrap (avInt (f (0 + ii) 0)))).slot, AV.sym IntKind.u32 (ofEX (IntKind.i64.wrap (avInt (f (0 + ii) 0)))).gen, AV.symb (ofEX (IntKind.i64.wrap (avInt (f (0 + ii) 0)))).mark, AV.sym IntKind.u64 (ofEX (IntKind.i64.wrap (avInt (f (0 + ii) 0)))).birth, AV.sym IntKind.u64 (ofEX (IntKind.i64.wrap (avInt (f (0 + ii) 0)))).epoch, AV.sym IntKind.u64 (ofEX (IntKind.i64.wrap (avInt (f (0 + ii) 0)))).era] (i - (owN p f ii).nn) j) (ofSX (owN p f ii).S (IntKind.i64.wrap (avInt (f (0 + ii) 0))))).L.a = (owN p f (ii + 1)).S.L.a,
 (gvnY ((owN p f ii).nn + 1) (yK fun i j => if i < (owN p f ii).nn then yF (owN p f ii).En (0 + i) j else rowsOf 6 [AV.sym IntKind.i64 (ofEX (IntKind.i64.wrap (avInt (f (0 + ii) 0)))).slot, AV.sym IntKind.u32 (ofEX (IntKind.i64.wrap (avInt (f (0 + ii) 0)))).gen, AV.symb (ofEX (IntKind.i64.wrap (avInt (f (0 + ii) 0)))).mark, AV.sym IntKind.u64 (ofEX (IntKind.i64.wrap (avInt (f (0 + ii) 0)))).birth, AV.sym IntKind.u64 (ofEX (IntKind.i64.wrap (avInt (f (0 + ii) 0)))).epoch, AV.sym IntKind.u64 (ofEX (IntKind.i64.wrap (avInt (f (0 + ii) 0)))).era] (i - (owN p f ii).nn) j) (ofSX (owN p f ii).S (IntKind.i64.wrap (avInt (f (0 + ii) 0))))).L.f = (owN p f (ii + 1)).S.L.f,
 (gvnY ((owN p f ii).nn + 1) (yK fun i j => if i < (owN p f ii).nn then yF (owN p f ii).En (0 + i) j else rowsOf 6 [AV.sym IntKind.i64 (ofEX (IntKind.i64.wrap (avInt (f (0 + ii) 0)))).slot, AV.sym IntKind.u32 (ofEX (IntKind.i64.wrap (avInt (f (0 + ii) 0)))).gen, AV.symb (ofEX (IntKind.i64.wrap (avInt (f (0 + ii) 0)))).mark, AV.sym IntKind.u64 (ofEX (IntKind.i64.wrap (avInt (f (0 + ii) 0)))).birth, AV.sym IntKind.u64 (ofEX (IntKind.i64.wrap (avInt (f (0 + ii) 0)))).epoch, AV.sym IntKind.u64 (ofEX (IntKind.i64.wrap (avInt (f (0 + ii) 0)))).era] (i - (owN p f ii).nn) j) (ofSX (owN p f ii).S (IntKind.i64.wrap (avInt (f (0 + ii) 0))))).L.w = (owN p f (ii + 1)).S.L.w,
 (gvnY ((owN p f ii).nn + 1) (yK fun i j => if i < (owN p f ii).nn then yF (owN p f ii).En (0 + i) j else rowsOf 6 [AV.sym IntKind.i64 (ofEX (IntKind.i64.wrap (avInt (f (0 + ii) 0)))).slot, AV.sym IntKind.u32 (ofEX (IntKind.i64.wrap (avInt (f (0 + ii) 0)))).gen, AV.symb (ofEX (IntKind.i64.wrap (avInt (f (0 + ii) 0)))).mark, AV.sym IntKind.u64 (ofEX (IntKind.i64.wrap (avInt (f (0 + ii) 0)))).birth, AV.sym IntKind.u64 (ofEX (IntKind.i64.wrap (avInt (f (0 + ii) 0)))).epoch, AV.sym IntKind.u64 (ofEX (IntKind.i64.wrap (avInt (f (0 + ii) 0)))).era] (i - (owN p f ii).nn) j) (ofSX (owN p f ii).S (IntKind.i64.wrap (avInt (f (0 + ii) 0))))).L.i = (owN p f (ii + 1)).S.L.i,
 (gvnY ((owN p f ii).nn + 1) (yK fun i j => if i < (owN p f ii).nn then yF (owN p f ii).En (0 + i) j else rowsOf 6 [AV.sym IntKind.i64 (ofEX (IntKind.i64.wrap (avInt (f (0 + ii) 0)))).slot, AV.sym IntKind.u32 (ofEX (IntKind.i64.wrap (avInt (f (0 + ii) 0)))).gen, AV.symb (ofEX (IntKind.i64.wrap (avInt (f (0 + ii) 0)))).mark, AV.sym IntKind.u64 (ofEX (IntKind.i64.wrap (avInt (f (0 + ii) 0)))).birth, AV.sym IntKind.u64 (ofEX (IntKind.i64.wrap (avInt (f (0 + ii) 0)))).epoch, AV.sym IntKind.u64 (ofEX (IntKind.i64.wrap (avInt (f (0 + ii) 0)))).era] (i - (owN p f ii).nn) j) (ofSX (owN p f ii).S (IntKind.i64.wrap (avInt (f (0 + ii) 0))))).L.d = (owN p f (ii + 1)).S.L.d,
 ∀ (k : List Int), (gvnY ((owN p f ii).nn + 1) (yK fun i j => if i < (owN p f ii).nn then yF (owN p f ii).En (0 + i) j else rowsOf 6 [AV.sym IntKind.i64 (ofEX (IntKind.i64.wrap (avInt (f (0 + ii) 0)))).slot, AV.sym IntKind.u32 (ofEX (IntKind.i64.wrap (avInt (f (0 + ii) 0)))).gen, AV.symb (ofEX (IntKind.i64.wrap (avInt (f (0 + ii) 0)))).mark, AV.sym IntKind.u64 (ofEX (IntKind.i64.wrap (avInt (f (0 + ii) 0)))).birth, AV.sym IntKind.u64 (ofEX (IntKind.i64.wrap (avInt (f (0 + ii) 0)))).epoch, AV.sym IntKind.u64 (ofEX (IntKind.i64.wrap (avInt (f (0 + ii) 0)))).era] (i - (owN p f ii).nn) j) (ofSX (owN p f ii).S (IntKind.i64.wrap (avInt (f (0 + ii) 0))))).M k = (owN p f (ii + 1)).S.M k,
 (owN p f (ii + 1)).nn = 0,
 false = false,
 (owN p f (ii + 1)).nw ≤ (owN p f ii).nn + 1 + (owN p f ii).nw,
 (yF (owN p f (ii + 1)).Ew = fun i j => if i < (owN p f ii).nn + 1 then if 0 + (0 + i) < (owN p f ii).nn then yF (owN p f ii).En (0 + (0 + (0 + i))) j else rowsOf 6 [AV.sym IntKind.i64 (ofEX (IntKind.i64.wrap (avInt (f (0 + ii) 0)))).slot, AV.sym IntKind.u32 (ofEX (IntKind.i64.wrap (avInt (f (0 + ii) 0)))).gen, AV.symb (ofEX (IntKind.i64.wrap (avInt (f (0 + ii) 0)))).mark, AV.sym IntKind.u64 (ofEX (IntKind.i64.wrap (avInt (f (0 + ii) 0)))).birth, AV.sym IntKind.u64 (ofEX (IntKind.i64.wrap (avInt (f (0 + ii) 0)))).epoch, AV.sym IntKind.u64 (ofEX (IntKind.i64.wrap (avInt (f (0 + ii) 0)))).era] (0 + (0 + i) - (owN p f ii).nn) j else yF (owN p f ii).Ew (0 + (i - ((owN p f ii).nn + 1))) j) ∧ plainSh [CK.int IntKind.i64, CK.int IntKind.u32, CK.bool, CK.int IntKind.u64, CK.int IntKind.u64, CK.int IntKind.u64] = true ∨ ∀ (i : Nat), i < (owN p f (ii + 1)).nw → rowOb [CK.int IntKind.i64, CK.int IntKind.u32, CK.bool, CK.int IntKind.u64, CK.int IntKind.u64, CK.int IntKind.u64] 0 (fun j => if i < (owN p f ii).nn + 1 then if 0 + (0 + i) < (owN p f ii).nn then yF (owN p f ii).En (0 + (0 + (0 + i))) j else rowsOf 6 [AV.sym IntKind.i64 (ofEX (IntKind.i64.wrap (avInt (f (0 + ii) 0)))).slot, AV.sym IntKind.u32 (ofEX (IntKind.i64.wrap (avInt (f (0 + ii) 0)))).gen, AV.symb (ofEX (IntKind.i64.wrap (avInt (f (0 + ii) 0)))).mark, AV.sym IntKind.u64 (ofEX (IntKind.i64.wrap (avInt (f (0 + ii) 0)))).birth, AV.sym IntKind.u64 (ofEX (IntKind.i64.wrap (avInt (f (0 + ii) 0)))).epoch, AV.sym IntKind.u64 (ofEX (IntKind.i64.wrap (avInt (f (0 + ii) 0)))).era] (0 + (0 + i) - (owN p f ii).nn) j else yF (owN p f ii).Ew (0 + (i - ((owN p f ii).nn + 1))) j) (yF (owN p f (ii + 1)).Ew i),
 (((owN p f ii).nn + 1 + (owN p f ii).nw) * 40).ble 70368744177664 = true,
 (0 + (owN p f ii).nw).ble (owN p f ii).nw = true,
 (0 + ((owN p f ii).nn + 1)).ble ((owN p f ii).nn + 1) = true,
 ((owN p f ii).nn + 1).beq 0 = false,
 (((owN p f ii).nn + 1) * 40).ble 70368744177664 = true,
 (0 + ((owN p f ii).nn + 1)).ble ((owN p f ii).nn + 1) = true,
 (!gvnB ((owN p f ii).nn + 1) (yK fun i j => if i < (owN p f ii).nn then yF (owN p f ii).En (0 + i) j else rowsOf 6 [AV.sym IntKind.i64 (ofEX (IntKind.i64.wrap (avInt (f (0 + ii) 0)))).slot, AV.sym IntKind.u32 (ofEX (IntKind.i64.wrap (avInt (f (0 + ii) 0)))).gen, AV.symb (ofEX (IntKind.i64.wrap (avInt (f (0 + ii) 0)))).mark, AV.sym IntKind.u64 (ofEX (IntKind.i64.wrap (avInt (f (0 + ii) 0)))).birth, AV.sym IntKind.u64 (ofEX (IntKind.i64.wrap (avInt (f (0 + ii) 0)))).epoch, AV.sym IntKind.u64 (ofEX (IntKind.i64.wrap (avInt (f (0 + ii) 0)))).era] (i - (owN p f ii).nn) j) (ofSX (owN p f ii).S (IntKind.i64.wrap (avInt (f (0 + ii) 0))))) = false,
 tabF tab = tabF tab,
 (owN p f ii).nn + 1 ≤ (owN p f ii).nn + 1,
 U64 (ofSX (owN p f ii).S (IntKind.i64.wrap (avInt (f (0 + ii) 0)))),
 GvMay ((owN p f ii).nn + 1) fun i j => if i < (owN p f ii).nn then yF (owN p f ii).En (0 + i) j else rowsOf 6 [AV.sym IntKind.i64 (ofEX (IntKind.i64.wrap (avInt (f (0 + ii) 0)))).slot, AV.sym IntKind.u32 (ofEX (IntKind.i64.wrap (avInt (f (0 + ii) 0)))).gen, AV.symb (ofEX (IntKind.i64.wrap (avInt (f (0 + ii) 0)))).mark, AV.sym IntKind.u64 (ofEX (IntKind.i64.wrap (avInt (f (0 + ii) 0)))).birth, AV.sym IntKind.u64 (ofEX (IntKind.i64.wrap (avInt (f (0 + ii) 0)))).epoch, AV.sym IntKind.u64 (ofEX (IntKind.i64.wrap (avInt (f (0 + ii) 0)))).era] (i - (owN p f ii).nn) j,
 IntKind.i64.wrap (Int.ofNat ((owN p f ii).nn + 1) + 2) = Int.ofNat ((owN p f ii).nn + 1) + 2,
 GvNo ((owN p f ii).nn + 1) (yK fun i j => if i < (owN p f ii).nn then yF (owN p f ii).En (0 + i) j else rowsOf 6 [AV.sym IntKind.i64 (ofEX (IntKind.i64.wrap (avInt (f (0 + ii) 0)))).slot, AV.sym IntKind.u32 (ofEX (IntKind.i64.wrap (avInt (f (0 + ii) 0)))).gen, AV.symb (ofEX (IntKind.i64.wrap (avInt (f (0 + ii) 0)))).mark, AV.sym IntKind.u64 (ofEX (IntKind.i64.wrap (avInt (f (0 + ii) 0)))).birth, AV.sym IntKind.u64 (ofEX (IntKind.i64.wrap (avInt (f (0 + ii) 0)))).epoch, AV.sym IntKind.u64 (ofEX (IntKind.i64.wrap (avInt (f (0 + ii) 0)))).era] (i - (owN p f ii).nn) j) (ofSX (owN p f ii).S (IntKind.i64.wrap (avInt (f (0 + ii) 0)))),
 decide (Int.ofNat ((owN p f ii).nn + 1) > (IntKind.i64.wrap p).tmod 5) = true,
 (((owN p f ii).nn + 1) * 40).ble 70368744177664 = true,
 (0 + (owN p f ii).nn).ble (owN p f ii).nn = true,
 tabF tab = tabF tab,
 (0 + ii).blt m = true,
 (ii.blt m && decide (0 ≤ Int.ofNat ii)) = true,
 hadF f ii ii = false,
 ophLP m f p (owN p f ii).nw (owN p f ii).nn ii,
 decide (Int.ofNat ii < Int.ofNat m) = true]) := by kernel_rfl
theorem oplx_1 (m : Nat) (f : Nat → Nat → AV) (p : Int) (ii : Nat) : roundB EOo 3000 oplL ((oplU m f p).hp) [(5, Src.nm 5), (4, Src.nm 4)] (oplT m f p ii) [Hint.b false] (oplX m f p ii) =
 some (Ex.exit 0, [(0 : Nat) = 0,
 m = m,
 (none : Option Nat) = none,
 p = p,
 (0 : Nat) = 0,
 (0 : Nat) = 0,
 (0 : Nat) = 0,
 (owN p f ii).nw = (owN p f ii).nw,
 (none : Option Nat) = none,
 (0 : Nat) = 0,
 (owN p f ii).nn = (owN p f ii).nn,
 (none : Option Nat) = none,
 true = true,
 (1 : Nat) ≤ (1 : Nat),
 tabF tab = tabF tab ∧ plainSh (List.map kindOfV tab) = true ∨ ∀ (i : Nat), i < 1 → rowOb (List.map kindOfV tab) 0 (tabF tab i) (tabF tab i),
 true = true,
 m ≤ m,
 f = f ∧ plainSh [CK.int IntKind.u8] = true ∨ ∀ (i : Nat), i < m → rowOb [CK.int IntKind.u8] 0 (f i) (f i),
 (owN p f ii).S.st = (owN p f ii).S.st,
 (owN p f ii).S.L.c = (owN p f ii).S.L.c,
 (owN p f ii).S.L.k = (owN p f ii).S.L.k,
 (owN p f ii).S.L.a = (owN p f ii).S.L.a,
 (owN p f ii).S.L.f = (owN p f ii).S.L.f,
 (owN p f ii).S.L.w = (owN p f ii).S.L.w,
 (owN p f ii).S.L.i = (owN p f ii).S.L.i,
 (owN p f ii).S.L.d = (owN p f ii).S.L.d,
 ∀ (k : List Int), (owN p f ii).S.M k = (owN p f ii).S.M k,
 false = false,
 (owN p f ii).nn ≤ (owN p f ii).nn,
 yF (owN p f ii).En = yF (owN p f ii).En ∧ plainSh [CK.int IntKind.i64, CK.int IntKind.u32, CK.bool, CK.int IntKind.u64, CK.int IntKind.u64, CK.int IntKind.u64] = true ∨ ∀ (i : Nat), i < (owN p f ii).nn → rowOb [CK.int IntKind.i64, CK.int IntKind.u32, CK.bool, CK.int IntKind.u64, CK.int IntKind.u64, CK.int IntKind.u64] 0 (yF (owN p f ii).En i) (yF (owN p f ii).En i),
 false = false,
 (owN p f ii).nw ≤ (owN p f ii).nw,
 yF (owN p f ii).Ew = yF (owN p f ii).Ew ∧ plainSh [CK.int IntKind.i64, CK.int IntKind.u32, CK.bool, CK.int IntKind.u64, CK.int IntKind.u64, CK.int IntKind.u64] = true ∨ ∀ (i : Nat), i < (owN p f ii).nw → rowOb [CK.int IntKind.i64, CK.int IntKind.u32, CK.bool, CK.int IntKind.u64, CK.int IntKind.u64, CK.int IntKind.u64] 0 (yF (owN p f ii).Ew i) (yF (owN p f ii).Ew i),
 decide (Int.ofNat ii < Int.ofNat m) = false]) := by kernel_rfl
theorem opli_1 (m : Nat) (f : Nat → Nat → AV) (p : Int) : castSt ((oplU m f p).hp) [(5, Src.nil 6), (4, Src.nil 6)] (oplU m f p) (oplT m f p 0) =
 some ([(0 : Nat) = 0,
 m = m,
 (none : Option Nat) = none,
 p = p,
 (0 : Nat) = 0,
 (0 : Nat) = 0,
 (0 : Nat) = 0,
 (0 : Nat) = 0,
 (none : Option Nat) = none,
 (0 : Nat) = 0,
 (0 : Nat) = 0,
 (none : Option Nat) = none,
 (0 : Int) = 0,
 true = true,
 (1 : Nat) ≤ (1 : Nat),
 tabF tab = tabF tab ∧ plainSh (List.map kindOfV tab) = true ∨ ∀ (i : Nat), i < 1 → rowOb (List.map kindOfV tab) 0 (tabF tab i) (tabF tab i),
 true = true,
 m ≤ m,
 f = f ∧ plainSh [CK.int IntKind.u8] = true ∨ ∀ (i : Nat), i < m → rowOb [CK.int IntKind.u8] 0 (f i) (f i),
 (0 : Int) = 0,
 (0 : Int) = 0,
 (0 : Int) = 0,
 (0 : Int) = 0,
 (0 : Int) = 0,
 (0 : Int) = 0,
 (0 : Int) = 0,
 false = (owN p f 0).S.L.d,
 ∀ (k : List Int), none = (owN p f 0).S.M k,
 (0 : Nat) = 0,
 (0 : Nat) = 0]) := by kernel_rfl
theorem opl_lp (m : Nat) (f : Nat → Nat → AV) (p : Int) (hm : m ≤ 30) (hr : ∀ k, k < m → 0 ≤ avInt (f k 0) ∧ avInt (f k 0) < 256) : oplLP m f p := by
  refine loop_rule EOo_ok (I := Nat) (fun i => oplT m f p i) (fun i => m - i) (fun i => i ≤ m) ?_ (fun ii hi => ?_)
  ·
    refine ⟨0, [(5, Src.nil 6), (4, Src.nil 6)], _, Nat.zero_le _, opli_1 .., (ob_cons rfl (ob_cons rfl (ob_cons rfl (ob_cons rfl (ob_cons rfl (ob_cons rfl (ob_cons rfl (ob_cons rfl (ob_cons rfl (ob_cons rfl (ob_cons rfl (ob_cons rfl (ob_cons rfl (ob_cons rfl (ob_cons (Nat.le_refl _) (ob_cons (.inl ⟨rfl, rfl⟩) (ob_cons rfl (ob_cons (Nat.le_refl _) (ob_cons (.inl ⟨rfl, rfl⟩) (ob_cons rfl (ob_cons rfl (ob_cons rfl (ob_cons rfl (ob_cons rfl (ob_cons rfl (ob_cons rfl (ob_cons ?_ (ob_cons ?_ (ob_cons rfl (ob_cons rfl ob_nil))))))))))))))))))))))))))))))⟩
    · exact rfl
    · exact fun _ => rfl
  have hx : ii ≤ m := hi
  rcases Nat.lt_or_ge ii m with hlt | hge
  rotate_left
  · obtain rfl : m = ii := by omega
    refine round_exit (s0 := oplU m f p) (T := fun i => oplT m f p i) (i := m) (oplx_1 ..) (by simp) (ob_cons rfl (ob_cons rfl (ob_cons rfl (ob_cons rfl (ob_cons rfl (ob_cons rfl (ob_cons rfl (ob_cons rfl (ob_cons rfl (ob_cons rfl (ob_cons rfl (ob_cons rfl (ob_cons rfl (ob_cons (Nat.le_refl _) (ob_cons (.inl ⟨rfl, rfl⟩) (ob_cons rfl (ob_cons (Nat.le_refl _) (ob_cons (.inl ⟨rfl, rfl⟩) (ob_cons rfl (ob_cons rfl (ob_cons rfl (ob_cons rfl (ob_cons rfl (ob_cons rfl (ob_cons rfl (ob_cons rfl (ob_cons (fun _ => rfl) (ob_cons rfl (ob_cons (Nat.le_refl _) (ob_cons (.inl ⟨rfl, rfl⟩) (ob_cons rfl (ob_cons (Nat.le_refl _) (ob_cons (.inl ⟨rfl, rfl⟩) (ob_cons ?_ ob_nil))))))))))))))))))))))))))))))))))
    · (simp; done)
  obtain ⟨nl, wl, t, hoi⟩ := oi_all (p := p) (by omega) hr ii hx
  have hlen := hoi.len
  have hnn := hoi.nn
  have hnw := hoi.nw
  have hlp : ii < m → ophLP m f p (owN p f ii).nw (owN p f ii).nn ii := fun h => oph_lp m f p _ _ ii h (by omega)
  have hxr := hr ii hlt
  have hii : IntKind.i64.wrap (Int.ofNat ii + 1) = Int.ofNat (ii + 1) := by rw [i64w (by simp; omega) (by simp; omega)]; simp
  have g1 : Int.ofNat ii < Int.ofNat m := by show (ii : Int) < m; omega
  cases hh : hadF f ii ii with
  | true =>
    have hE : owN p f (ii + 1) = owN p f ii := by simp only [owN, hh]
    refine round_norm (s0 := oplU m f p) (T := fun i => oplT m f p i) (i := ii) (ii + 1) (opa_1 ..) (ob_cons rfl (ob_cons rfl (ob_cons rfl (ob_cons rfl (ob_cons rfl (ob_cons rfl (ob_cons rfl (ob_cons ?_ (ob_cons rfl (ob_cons rfl (ob_cons ?_ (ob_cons rfl (ob_cons ?_ (ob_cons rfl (ob_cons (Nat.le_refl _) (ob_cons (.inl ⟨rfl, rfl⟩) (ob_cons rfl (ob_cons (Nat.le_refl _) (ob_cons (.inl ⟨rfl, rfl⟩) (ob_cons ?_ (ob_cons ?_ (ob_cons ?_ (ob_cons ?_ (ob_cons ?_ (ob_cons ?_ (ob_cons ?_ (ob_cons ?_ (ob_cons ?_ (ob_cons rfl (ob_cons ?_ (ob_cons ?_ (ob_cons rfl (ob_cons ?_ (ob_cons ?_ (ob_cons ?_ (ob_cons ?_ (ob_cons ?_ ob_nil))))))))))))))))))))))))))))))))))))) (by show ii + 1 ≤ m; omega) (by show m - (ii + 1) < m - ii; omega)
    · (rw [hE]; done)
    · (rw [hE]; done)
    · with_reducible assumption
    · (rw [hE]; done)
    · (rw [hE]; done)
    · (rw [hE]; done)
    · (rw [hE]; done)
    · (rw [hE]; done)
    · (rw [hE]; done)
    · (rw [hE]; done)
    · (rw [hE]; done)
    · (rw [hE]; exact fun _ => rfl)
    · (rw [hE]; exact Nat.le_refl _)
    · (rw [hE]; exact .inl ⟨rfl, rfl⟩)
    · (rw [hE]; exact Nat.le_refl _)
    · (rw [hE]; exact .inl ⟨rfl, rfl⟩)
    · with_reducible assumption
    · exact hlp (by omega)
    · exact decide_eq_true g1
  | false =>
    have hE0 : owN p f (ii + 1) = owS (owN p f ii) (opP p) (opX f ii) := by simp only [owN, hh]
    have ex := opX_r hxr
    have hno : ∀ k, k < ii → opX f ii ≠ opX f k := fun k hk e => by
      rw [ex, opX_r (hr k (by omega))] at e
      have := (had_iff (f := f) (j := ii) ii).2 ⟨k, hk, e.symm⟩
      rw [hh] at this; cases this
    cases hgg : decide (Int.ofNat ((owN p f ii).nn + 1) > opP p) with
    | false =>
      have hE : owN p f (ii + 1) = owA (owN p f ii) (opX f ii) := by rw [hE0]; unfold owS; rw [hgg]
      refine round_norm (s0 := oplU m f p) (T := fun i => oplT m f p i) (i := ii) (ii + 1) (opb_1 ..) (ob_cons rfl (ob_cons rfl (ob_cons rfl (ob_cons rfl (ob_cons rfl (ob_cons rfl (ob_cons rfl (ob_cons ?_ (ob_cons rfl (ob_cons rfl (ob_cons ?_ (ob_cons rfl (ob_cons ?_ (ob_cons rfl (ob_cons (Nat.le_refl _) (ob_cons (.inl ⟨rfl, rfl⟩) (ob_cons rfl (ob_cons (Nat.le_refl _) (ob_cons (.inl ⟨rfl, rfl⟩) (ob_cons ?_ (ob_cons ?_ (ob_cons ?_ (ob_cons ?_ (ob_cons ?_ (ob_cons ?_ (ob_cons ?_ (ob_cons ?_ (ob_cons ?_ (ob_cons rfl (ob_cons ?_ (ob_cons ?_ (ob_cons rfl (ob_cons ?_ (ob_cons ?_ (ob_cons ?_ (ob_cons ?_ (ob_cons ?_ (ob_cons rfl (ob_cons ?_ (ob_cons ?_ (ob_cons ?_ (ob_cons ?_ (ob_cons ?_ ob_nil))))))))))))))))))))))))))))))))))))))))))) (by show ii + 1 ≤ m; omega) (by show m - (ii + 1) < m - ii; omega)
      · (rw [hE]; rfl)
      · (rw [hE]; rfl)
      · with_reducible assumption
      · (rw [hE]; rfl)
      · (rw [hE]; rfl)
      · (rw [hE]; rfl)
      · (rw [hE]; rfl)
      · (rw [hE]; rfl)
      · (rw [hE]; rfl)
      · (rw [hE]; rfl)
      · (rw [hE]; rfl)
      · (rw [hE]; exact fun _ => rfl)
      · (rw [hE]; exact Nat.le_refl _)
      · (rw [hE]; exact .inr (addY_rows (f := yF _) rfl _ (Nat.le_refl _)))
      · (rw [hE]; exact Nat.le_refl _)
      · (rw [hE]; exact .inl ⟨rfl, rfl⟩)
      · exact hgg
      · (apply Nat.ble_eq_true_of_le; omega)
      · (apply Nat.ble_eq_true_of_le; omega)
      · (apply Nat.ble_eq_true_of_le; omega)
      · (simp [Nat.blt_eq]; omega)
      · with_reducible assumption
      · exact hlp (by omega)
      · exact decide_eq_true g1
    | true =>
      have hE : owN p f (ii + 1) = owAG (owN p f ii) (opX f ii) := by rw [hE0]; unfold owS; rw [hgg]
      have hag := hoi.addGive (by omega) rfl (by rw [ex]; exact hxr.1) (by rw [ex]; exact hxr.2) hno
      have het : IntKind.i64.wrap (Int.ofNat ((owN p f ii).nn + 1) + 2) = Int.ofNat ((owN p f ii).nn + 1) + 2 := i64w (by simp; omega) (by simp; omega)
      have hbn : ((owN p f ii).nn + 1).beq 0 = false := beq0 (Nat.succ_pos _)
      by_cases hz : (owN p f ii).nw = 0
      · have hb0 : (owN p f ii).nw.beq 0 = true := by rw [hz]; rfl
        have hcnt : (owN p f ii).nn + 1 = (owAG (owN p f ii) (opX f ii)).nw := by show _ = _ + 1 + (owN p f ii).nw; omega
        refine round_norm (s0 := oplU m f p) (T := fun i => oplT m f p i) (i := ii) (ii + 1) (opc_1 ..) (ob_cons rfl (ob_cons rfl (ob_cons rfl (ob_cons rfl (ob_cons rfl (ob_cons rfl (ob_cons rfl (ob_cons ?_ (ob_cons rfl (ob_cons rfl (ob_cons ?_ (ob_cons rfl (ob_cons ?_ (ob_cons rfl (ob_cons (Nat.le_refl _) (ob_cons (.inl ⟨rfl, rfl⟩) (ob_cons rfl (ob_cons (Nat.le_refl _) (ob_cons (.inl ⟨rfl, rfl⟩) (ob_cons ?_ (ob_cons ?_ (ob_cons ?_ (ob_cons ?_ (ob_cons ?_ (ob_cons ?_ (ob_cons ?_ (ob_cons ?_ (ob_cons ?_ (ob_cons ?_ (ob_cons rfl (ob_cons ?_ (ob_cons ?_ (ob_cons ?_ (ob_cons ?_ (ob_cons ?_ (ob_cons ?_ (ob_cons ?_ (ob_cons ?_ (ob_cons ?_ (ob_cons rfl (ob_cons (Nat.le_refl _) (ob_cons ?_ (ob_cons ?_ (ob_cons ?_ (ob_cons ?_ (ob_cons ?_ (ob_cons ?_ (ob_cons ?_ (ob_cons rfl (ob_cons ?_ (ob_cons ?_ (ob_cons ?_ (ob_cons ?_ (ob_cons ?_ ob_nil)))))))))))))))))))))))))))))))))))))))))))))))))))))) (by show ii + 1 ≤ m; omega) (by show m - (ii + 1) < m - ii; omega)
        · (rw [hE]; rfl)
        · (rw [hE]; rfl)
        · with_reducible assumption
        · (rw [hE]; rfl)
        · (rw [hE]; rfl)
        · (rw [hE]; rfl)
        · (rw [hE]; rfl)
        · (rw [hE]; rfl)
        · (rw [hE]; rfl)
        · (rw [hE]; rfl)
        · (rw [hE]; rfl)
        · (rw [hE]; exact fun _ => rfl)
        · (rw [hE]; rfl)
        · (rw [hE]; exact Nat.le_refl _)
        · (rw [hE]; exact .inr give_rows)
        · (apply Nat.ble_eq_true_of_le; omega)
        · (apply Nat.ble_eq_true_of_le; omega)
        · (apply Nat.ble_eq_true_of_le; omega)
        · with_reducible assumption
        · (apply Nat.ble_eq_true_of_le; omega)
        · (apply Nat.ble_eq_true_of_le; omega)
        · exact notF hag.b
        · exact hag.u1
        · exact hag.may
        · with_reducible assumption
        · exact hag.no
        · exact hgg
        · (apply Nat.ble_eq_true_of_le; omega)
        · (apply Nat.ble_eq_true_of_le; omega)
        · (apply Nat.ble_eq_true_of_le; omega)
        · (simp [Nat.blt_eq]; omega)
        · with_reducible assumption
        · exact hlp (by omega)
        · exact decide_eq_true g1
      · have hb1 : (owN p f ii).nw.beq 0 = false := beq0 (by omega)
        refine round_norm (s0 := oplU m f p) (T := fun i => oplT m f p i) (i := ii) (ii + 1) (opd_1 ..) (ob_cons rfl (ob_cons rfl (ob_cons rfl (ob_cons rfl (ob_cons rfl (ob_cons rfl (ob_cons rfl (ob_cons ?_ (ob_cons rfl (ob_cons rfl (ob_cons ?_ (ob_cons rfl (ob_cons ?_ (ob_cons rfl (ob_cons (Nat.le_refl _) (ob_cons (.inl ⟨rfl, rfl⟩) (ob_cons rfl (ob_cons (Nat.le_refl _) (ob_cons (.inl ⟨rfl, rfl⟩) (ob_cons ?_ (ob_cons ?_ (ob_cons ?_ (ob_cons ?_ (ob_cons ?_ (ob_cons ?_ (ob_cons ?_ (ob_cons ?_ (ob_cons ?_ (ob_cons ?_ (ob_cons rfl (ob_cons ?_ (ob_cons ?_ (ob_cons ?_ (ob_cons ?_ (ob_cons ?_ (ob_cons ?_ (ob_cons ?_ (ob_cons ?_ (ob_cons ?_ (ob_cons rfl (ob_cons (Nat.le_refl _) (ob_cons ?_ (ob_cons ?_ (ob_cons ?_ (ob_cons ?_ (ob_cons ?_ (ob_cons ?_ (ob_cons ?_ (ob_cons rfl (ob_cons ?_ (ob_cons ?_ (ob_cons ?_ (ob_cons ?_ (ob_cons ?_ ob_nil)))))))))))))))))))))))))))))))))))))))))))))))))))))) (by show ii + 1 ≤ m; omega) (by show m - (ii + 1) < m - ii; omega)
        · (rw [hE]; rfl)
        · (rw [hE]; rfl)
        · with_reducible assumption
        · (rw [hE]; rfl)
        · (rw [hE]; rfl)
        · (rw [hE]; rfl)
        · (rw [hE]; rfl)
        · (rw [hE]; rfl)
        · (rw [hE]; rfl)
        · (rw [hE]; rfl)
        · (rw [hE]; rfl)
        · (rw [hE]; exact fun _ => rfl)
        · (rw [hE]; rfl)
        · (rw [hE]; exact Nat.le_refl _)
        · (rw [hE]; exact .inr give_rows)
        · (apply Nat.ble_eq_true_of_le; omega)
        · (apply Nat.ble_eq_true_of_le; omega)
        · (apply Nat.ble_eq_true_of_le; omega)
        · with_reducible assumption
        · (apply Nat.ble_eq_true_of_le; omega)
        · (apply Nat.ble_eq_true_of_le; omega)
        · exact notF hag.b
        · exact hag.u1
        · exact hag.may
        · with_reducible assumption
        · exact hag.no
        · exact hgg
        · (apply Nat.ble_eq_true_of_le; omega)
        · (apply Nat.ble_eq_true_of_le; omega)
        · (apply Nat.ble_eq_true_of_le; omega)
        · (simp [Nat.blt_eq]; omega)
        · with_reducible assumption
        · exact hlp (by omega)
        · exact decide_eq_true g1
end Go.Proofs.YtmndhjodbnojdaaDoor
