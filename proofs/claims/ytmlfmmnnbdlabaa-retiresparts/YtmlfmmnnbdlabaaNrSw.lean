/-
  Retires: Sweep: the rounds of its loop.
-/
import Derived.Test.YtmlfmmnnbdlabaaNrSwDef
set_option linter.unusedSimpArgs false
set_option linter.unusedVariables false
namespace Go.Proofs.Ytmlfmmnnbdlabaa
open Go.Ev
theorem swa00_1 (n l m lm : Nat) (r : Bool) (f h : Nat → Nat → AV) (G S G2 S2 : List Ent) (M M2 M0 : List Int → Option Int) (ii : Nat) : roundB EA 3000 swL ((swU n l m lm r f h M0).hp) [(5, Src.nm 1432108390954562068130770492362074629094780895143840845398939973542058535927045117761430665392583068753512924305807531066532549738824859460831230820354)] (swT00 n l m lm r f h G S M ii) [Hint.b true, Hint.b true, Hint.b true] (swT10 n l m lm r f h G2 S2 M2 (ii + 1)) =
 some (Ex.norm, [(0 : Nat) = 0,
 (0 : Nat) = 0,
 (0 : Nat) = 0,
 m = m,
 (none : Option Nat) = none,
 (0 : Nat) = 0,
 1 = G2.length,
 (none : Option Nat) = none,
 (0 : Nat) = 0,
 n = n,
 (none : Option Nat) = none,
 Int.ofNat n = Int.ofNat n,
 IntKind.i64.wrap (Int.ofNat ii + 1) = Int.ofNat (ii + 1),
 (0 : Nat) = 0,
 n = n,
 (none : Option Nat) = none,
 false = false,
 l ≤ l,
 f = f ∧ plainSh eSh = true ∨ ∀ (i : Nat), i < l → rowOb eSh 0 (f i) (f i),
 ∀ (k : List Int), setKey M [avInt (f (0 + ii) 0), avInt (f (0 + ii) 1), if avBool (f (0 + ii) 2) = true then 1 else 0] none k = M2 k,
 r = r,
 lm ≤ lm,
 h = h ∧ plainSh [CK.bool] = true ∨ ∀ (i : Nat), i < lm → rowOb [CK.bool] 0 (h i) (h i),
 G2.length = 1,
 ∀ (i : Nat), i < G2.length → rowOb eSh 0 (listRow 6 ([] ++ [AV.sym IntKind.i64 (avInt (f (0 + ii) 0)), AV.sym IntKind.u32 (avInt (f (0 + ii) 1)), AV.symb (avBool (f (0 + ii) 2)), AV.sym IntKind.u64 (avInt (f (0 + ii) 3)), AV.sym IntKind.u64 (avInt (f (0 + ii) 4)), AV.sym IntKind.u64 (avInt (f (0 + ii) 5))]) i) (entF (entAt G2) i),
 avBool (h (0 + ii) 0) = true,
 (0 + ii).blt lm = true,
 (ii.blt m && decide (0 ≤ Int.ofNat ii)) = true,
 decide (Int.ofNat ii < Int.ofNat m) = true,
 (0 + ii).blt l = true,
 (ii.blt n && decide (0 ≤ Int.ofNat ii)) = true,
 decide (Int.ofNat ii < Int.ofNat n) = true]) := by kernel_rfl
theorem swb00_1 (n l m lm : Nat) (r : Bool) (f h : Nat → Nat → AV) (G S G2 S2 : List Ent) (M M2 M0 : List Int → Option Int) (ii : Nat) : roundB EA 3000 swL ((swU n l m lm r f h M0).hp) [(6, Src.nm 9)] (swT00 n l m lm r f h G S M ii) [Hint.b true, Hint.b true, Hint.b false] (swT01 n l m lm r f h G2 S2 M2 (ii + 1)) =
 some (Ex.norm, [(0 : Nat) = 0,
 (0 : Nat) = 0,
 (0 : Nat) = 0,
 m = m,
 (none : Option Nat) = none,
 (0 : Nat) = 0,
 1 = S2.length,
 (none : Option Nat) = none,
 (0 : Nat) = 0,
 n = n,
 (none : Option Nat) = none,
 Int.ofNat n = Int.ofNat n,
 IntKind.i64.wrap (Int.ofNat ii + 1) = Int.ofNat (ii + 1),
 (0 : Nat) = 0,
 n = n,
 (none : Option Nat) = none,
 false = false,
 l ≤ l,
 f = f ∧ plainSh eSh = true ∨ ∀ (i : Nat), i < l → rowOb eSh 0 (f i) (f i),
 ∀ (k : List Int), M k = M2 k,
 r = r,
 lm ≤ lm,
 h = h ∧ plainSh [CK.bool] = true ∨ ∀ (i : Nat), i < lm → rowOb [CK.bool] 0 (h i) (h i),
 S2.length = 1,
 ∀ (i : Nat), i < S2.length → rowOb eSh 0 (listRow 6 ([] ++ [AV.sym IntKind.i64 (avInt (f (0 + ii) 0)), AV.sym IntKind.u32 (avInt (f (0 + ii) 1)), AV.symb (avBool (f (0 + ii) 2)), AV.sym IntKind.u64 (avInt (f (0 + ii) 3)), AV.sym IntKind.u64 (avInt (f (0 + ii) 4)), AV.sym IntKind.u64 (avInt (f (0 + ii) 5))]) i) (entF (entAt S2) i),
 avBool (h (0 + ii) 0) = false,
 (0 + ii).blt lm = true,
 (ii.blt m && decide (0 ≤ Int.ofNat ii)) = true,
 decide (Int.ofNat ii < Int.ofNat m) = true,
 (0 + ii).blt l = true,
 (ii.blt n && decide (0 ≤ Int.ofNat ii)) = true,
 decide (Int.ofNat ii < Int.ofNat n) = true]) := by kernel_rfl
theorem swc00_1 (n l m lm : Nat) (r : Bool) (f h : Nat → Nat → AV) (G S G2 S2 : List Ent) (M M2 M0 : List Int → Option Int) (ii : Nat) : roundB EA 3000 swL ((swU n l m lm r f h M0).hp) [(6, Src.nm 9)] (swT00 n l m lm r f h G S M ii) [Hint.b true, Hint.b false] (swT01 n l m lm r f h G2 S2 M2 (ii + 1)) =
 some (Ex.norm, [(0 : Nat) = 0,
 (0 : Nat) = 0,
 (0 : Nat) = 0,
 m = m,
 (none : Option Nat) = none,
 (0 : Nat) = 0,
 1 = S2.length,
 (none : Option Nat) = none,
 (0 : Nat) = 0,
 n = n,
 (none : Option Nat) = none,
 Int.ofNat n = Int.ofNat n,
 IntKind.i64.wrap (Int.ofNat ii + 1) = Int.ofNat (ii + 1),
 (0 : Nat) = 0,
 n = n,
 (none : Option Nat) = none,
 false = false,
 l ≤ l,
 f = f ∧ plainSh eSh = true ∨ ∀ (i : Nat), i < l → rowOb eSh 0 (f i) (f i),
 ∀ (k : List Int), M k = M2 k,
 r = r,
 lm ≤ lm,
 h = h ∧ plainSh [CK.bool] = true ∨ ∀ (i : Nat), i < lm → rowOb [CK.bool] 0 (h i) (h i),
 S2.length = 1,
 ∀ (i : Nat), i < S2.length → rowOb eSh 0 (listRow 6 ([] ++ [AV.sym IntKind.i64 (avInt (f (0 + ii) 0)), AV.sym IntKind.u32 (avInt (f (0 + ii) 1)), AV.symb (avBool (f (0 + ii) 2)), AV.sym IntKind.u64 (avInt (f (0 + ii) 3)), AV.sym IntKind.u64 (avInt (f (0 + ii) 4)), AV.sym IntKind.u64 (avInt (f (0 + ii) 5))]) i) (entF (entAt S2) i),
 decide (Int.ofNat ii < Int.ofNat m) = false,
 (0 + ii).blt l = true,
 (ii.blt n && decide (0 ≤ Int.ofNat ii)) = true,
 decide (Int.ofNat ii < Int.ofNat n) = true]) := by kernel_rfl
theorem swx00_1 (n l m lm : Nat) (r : Bool) (f h : Nat → Nat → AV) (G S G2 S2 : List Ent) (M M2 M0 : List Int → Option Int) (ii : Nat) : roundB EA 3000 swL ((swU n l m lm r f h M0).hp) [] (swT00 n l m lm r f h G S M ii) [Hint.b false] (swX00 n l m lm r f h G S M) =
 some (Ex.exit 0, [(0 : Nat) = 0,
 (0 : Nat) = 0,
 (0 : Nat) = 0,
 n = n,
 (none : Option Nat) = none,
 false = false,
 l ≤ l,
 f = f ∧ plainSh eSh = true ∨ ∀ (i : Nat), i < l → rowOb eSh 0 (f i) (f i),
 ∀ (k : List Int), M k = M k,
 r = r,
 lm ≤ lm,
 h = h ∧ plainSh [CK.bool] = true ∨ ∀ (i : Nat), i < lm → rowOb [CK.bool] 0 (h i) (h i),
 decide (Int.ofNat ii < Int.ofNat n) = false]) := by kernel_rfl
theorem swa01_1 (n l m lm : Nat) (r : Bool) (f h : Nat → Nat → AV) (G S G2 S2 : List Ent) (M M2 M0 : List Int → Option Int) (ii : Nat) : roundB EA 3000 swL ((swU n l m lm r f h M0).hp) [(5, Src.nm 1432108390954562068130770492362074629094780895143840845398939973542058535927045117761430665392583068753512924305807531066532549738824859460831230820354), (6, Src.nm 6)] (swT01 n l m lm r f h G S M ii) [Hint.b true, Hint.b true, Hint.b true] (swT11 n l m lm r f h G2 S2 M2 (ii + 1)) =
 some (Ex.norm, [(0 : Nat) = 0,
 (0 : Nat) = 0,
 (0 : Nat) = 0,
 m = m,
 (none : Option Nat) = none,
 (0 : Nat) = 0,
 1 = G2.length,
 (none : Option Nat) = none,
 (0 : Nat) = 0,
 S.length = S2.length,
 (none : Option Nat) = none,
 (0 : Nat) = 0,
 n = n,
 (none : Option Nat) = none,
 Int.ofNat n = Int.ofNat n,
 IntKind.i64.wrap (Int.ofNat ii + 1) = Int.ofNat (ii + 1),
 (0 : Nat) = 0,
 n = n,
 (none : Option Nat) = none,
 false = false,
 l ≤ l,
 f = f ∧ plainSh eSh = true ∨ ∀ (i : Nat), i < l → rowOb eSh 0 (f i) (f i),
 ∀ (k : List Int), setKey M [avInt (f (0 + ii) 0), avInt (f (0 + ii) 1), if avBool (f (0 + ii) 2) = true then 1 else 0] none k = M2 k,
 r = r,
 lm ≤ lm,
 h = h ∧ plainSh [CK.bool] = true ∨ ∀ (i : Nat), i < lm → rowOb [CK.bool] 0 (h i) (h i),
 G2.length = 1,
 ∀ (i : Nat), i < G2.length → rowOb eSh 0 (listRow 6 ([] ++ [AV.sym IntKind.i64 (avInt (f (0 + ii) 0)), AV.sym IntKind.u32 (avInt (f (0 + ii) 1)), AV.symb (avBool (f (0 + ii) 2)), AV.sym IntKind.u64 (avInt (f (0 + ii) 3)), AV.sym IntKind.u64 (avInt (f (0 + ii) 4)), AV.sym IntKind.u64 (avInt (f (0 + ii) 5))]) i) (entF (entAt G2) i),
 false = false,
 S2.length ≤ S.length,
 entF (entAt S2) = entF (entAt S) ∧ plainSh eSh = true ∨ ∀ (i : Nat), i < S2.length → rowOb eSh 0 (entF (entAt S) i) (entF (entAt S2) i),
 avBool (h (0 + ii) 0) = true,
 (0 + ii).blt lm = true,
 (ii.blt m && decide (0 ≤ Int.ofNat ii)) = true,
 decide (Int.ofNat ii < Int.ofNat m) = true,
 (0 + ii).blt l = true,
 (ii.blt n && decide (0 ≤ Int.ofNat ii)) = true,
 decide (Int.ofNat ii < Int.ofNat n) = true]) := by kernel_rfl
theorem swb01_1 (n l m lm : Nat) (r : Bool) (f h : Nat → Nat → AV) (G S G2 S2 : List Ent) (M M2 M0 : List Int → Option Int) (ii : Nat) : roundB EA 3000 swL ((swU n l m lm r f h M0).hp) [(6, Src.nm 9)] (swT01 n l m lm r f h G S M ii) [Hint.b true, Hint.b true, Hint.b false] (swT01 n l m lm r f h G2 S2 M2 (ii + 1)) =
 some (Ex.norm, [(0 : Nat) = 0,
 (0 : Nat) = 0,
 (0 : Nat) = 0,
 m = m,
 (none : Option Nat) = none,
 (0 : Nat) = 0,
 S.length + 1 = S2.length,
 (none : Option Nat) = none,
 (0 : Nat) = 0,
 n = n,
 (none : Option Nat) = none,
 Int.ofNat n = Int.ofNat n,
 IntKind.i64.wrap (Int.ofNat ii + 1) = Int.ofNat (ii + 1),
 (0 : Nat) = 0,
 n = n,
 (none : Option Nat) = none,
 false = false,
 l ≤ l,
 f = f ∧ plainSh eSh = true ∨ ∀ (i : Nat), i < l → rowOb eSh 0 (f i) (f i),
 ∀ (k : List Int), M k = M2 k,
 r = r,
 lm ≤ lm,
 h = h ∧ plainSh [CK.bool] = true ∨ ∀ (i : Nat), i < lm → rowOb [CK.bool] 0 (h i) (h i),
 false = false,
 S2.length ≤ S.length + 1,
 (entF (entAt S2) = fun i j => if i < S.length then entF (entAt S) (0 + i) j else rowsOf 6 [AV.sym IntKind.i64 (avInt (f (0 + ii) 0)), AV.sym IntKind.u32 (avInt (f (0 + ii) 1)), AV.symb (avBool (f (0 + ii) 2)), AV.sym IntKind.u64 (avInt (f (0 + ii) 3)), AV.sym IntKind.u64 (avInt (f (0 + ii) 4)), AV.sym IntKind.u64 (avInt (f (0 + ii) 5))] (i - S.length) j) ∧ plainSh eSh = true ∨ ∀ (i : Nat), i < S2.length → rowOb eSh 0 (fun j => if i < S.length then entF (entAt S) (0 + i) j else rowsOf 6 [AV.sym IntKind.i64 (avInt (f (0 + ii) 0)), AV.sym IntKind.u32 (avInt (f (0 + ii) 1)), AV.symb (avBool (f (0 + ii) 2)), AV.sym IntKind.u64 (avInt (f (0 + ii) 3)), AV.sym IntKind.u64 (avInt (f (0 + ii) 4)), AV.sym IntKind.u64 (avInt (f (0 + ii) 5))] (i - S.length) j) (entF (entAt S2) i),
 ((S.length + 1) * 40).ble 70368744177664 = true,
 (0 + S.length).ble S.length = true,
 avBool (h (0 + ii) 0) = false,
 (0 + ii).blt lm = true,
 (ii.blt m && decide (0 ≤ Int.ofNat ii)) = true,
 decide (Int.ofNat ii < Int.ofNat m) = true,
 (0 + ii).blt l = true,
 (ii.blt n && decide (0 ≤ Int.ofNat ii)) = true,
 decide (Int.ofNat ii < Int.ofNat n) = true]) := by kernel_rfl
theorem swc01_1 (n l m lm : Nat) (r : Bool) (f h : Nat → Nat → AV) (G S G2 S2 : List Ent) (M M2 M0 : List Int → Option Int) (ii : Nat) : roundB EA 3000 swL ((swU n l m lm r f h M0).hp) [(6, Src.nm 9)] (swT01 n l m lm r f h G S M ii) [Hint.b true, Hint.b false] (swT01 n l m lm r f h G2 S2 M2 (ii + 1)) =
 some (Ex.norm, [(0 : Nat) = 0,
 (0 : Nat) = 0,
 (0 : Nat) = 0,
 m = m,
 (none : Option Nat) = none,
 (0 : Nat) = 0,
 S.length + 1 = S2.length,
 (none : Option Nat) = none,
 (0 : Nat) = 0,
 n = n,
 (none : Option Nat) = none,
 Int.ofNat n = Int.ofNat n,
 IntKind.i64.wrap (Int.ofNat ii + 1) = Int.ofNat (ii + 1),
 (0 : Nat) = 0,
 n = n,
 (none : Option Nat) = none,
 false = false,
 l ≤ l,
 f = f ∧ plainSh eSh = true ∨ ∀ (i : Nat), i < l → rowOb eSh 0 (f i) (f i),
 ∀ (k : List Int), M k = M2 k,
 r = r,
 lm ≤ lm,
 h = h ∧ plainSh [CK.bool] = true ∨ ∀ (i : Nat), i < lm → rowOb [CK.bool] 0 (h i) (h i),
 false = false,
 S2.length ≤ S.length + 1,
 (entF (entAt S2) = fun i j => if i < S.length then entF (entAt S) (0 + i) j else rowsOf 6 [AV.sym IntKind.i64 (avInt (f (0 + ii) 0)), AV.sym IntKind.u32 (avInt (f (0 + ii) 1)), AV.symb (avBool (f (0 + ii) 2)), AV.sym IntKind.u64 (avInt (f (0 + ii) 3)), AV.sym IntKind.u64 (avInt (f (0 + ii) 4)), AV.sym IntKind.u64 (avInt (f (0 + ii) 5))] (i - S.length) j) ∧ plainSh eSh = true ∨ ∀ (i : Nat), i < S2.length → rowOb eSh 0 (fun j => if i < S.length then entF (entAt S) (0 + i) j else rowsOf 6 [AV.sym IntKind.i64 (avInt (f (0 + ii) 0)), AV.sym IntKind.u32 (avInt (f (0 + ii) 1)), AV.symb (avBool (f (0 + ii) 2)), AV.sym IntKind.u64 (avInt (f (0 + ii) 3)), AV.sym IntKind.u64 (avInt (f (0 + ii) 4)), AV.sym IntKind.u64 (avInt (f (0 + ii) 5))] (i - S.length) j) (entF (entAt S2) i),
 ((S.length + 1) * 40).ble 70368744177664 = true,
 (0 + S.length).ble S.length = true,
 decide (Int.ofNat ii < Int.ofNat m) = false,
 (0 + ii).blt l = true,
 (ii.blt n && decide (0 ≤ Int.ofNat ii)) = true,
 decide (Int.ofNat ii < Int.ofNat n) = true]) := by kernel_rfl
theorem swx01_1 (n l m lm : Nat) (r : Bool) (f h : Nat → Nat → AV) (G S G2 S2 : List Ent) (M M2 M0 : List Int → Option Int) (ii : Nat) : roundB EA 3000 swL ((swU n l m lm r f h M0).hp) [(6, Src.nm 6)] (swT01 n l m lm r f h G S M ii) [Hint.b false] (swX01 n l m lm r f h G S M) =
 some (Ex.exit 0, [(0 : Nat) = 0,
 (0 : Nat) = 0,
 (0 : Nat) = 0,
 S.length = S.length,
 (none : Option Nat) = none,
 (0 : Nat) = 0,
 n = n,
 (none : Option Nat) = none,
 false = false,
 l ≤ l,
 f = f ∧ plainSh eSh = true ∨ ∀ (i : Nat), i < l → rowOb eSh 0 (f i) (f i),
 ∀ (k : List Int), M k = M k,
 r = r,
 lm ≤ lm,
 h = h ∧ plainSh [CK.bool] = true ∨ ∀ (i : Nat), i < lm → rowOb [CK.bool] 0 (h i) (h i),
 false = false,
 S.length ≤ S.length,
 entF (entAt S) = entF (entAt S) ∧ plainSh eSh = true ∨ ∀ (i : Nat), i < S.length → rowOb eSh 0 (entF (entAt S) i) (entF (entAt S) i),
 decide (Int.ofNat ii < Int.ofNat n) = false]) := by kernel_rfl
theorem swa10_1 (n l m lm : Nat) (r : Bool) (f h : Nat → Nat → AV) (G S G2 S2 : List Ent) (M M2 M0 : List Int → Option Int) (ii : Nat) : roundB EA 3000 swL ((swU n l m lm r f h M0).hp) [(5, Src.nm 1432108390954562068130770492362074629094780895143840845398939973542058535927045117761430665392583068753512924305807531066532549738824859460831230820354)] (swT10 n l m lm r f h G S M ii) [Hint.b true, Hint.b true, Hint.b true] (swT10 n l m lm r f h G2 S2 M2 (ii + 1)) =
 some (Ex.norm, [(0 : Nat) = 0,
 (0 : Nat) = 0,
 (0 : Nat) = 0,
 m = m,
 (none : Option Nat) = none,
 (0 : Nat) = 0,
 G.length + 1 = G2.length,
 (none : Option Nat) = none,
 (0 : Nat) = 0,
 n = n,
 (none : Option Nat) = none,
 Int.ofNat n = Int.ofNat n,
 IntKind.i64.wrap (Int.ofNat ii + 1) = Int.ofNat (ii + 1),
 (0 : Nat) = 0,
 n = n,
 (none : Option Nat) = none,
 false = false,
 l ≤ l,
 f = f ∧ plainSh eSh = true ∨ ∀ (i : Nat), i < l → rowOb eSh 0 (f i) (f i),
 ∀ (k : List Int), setKey M [avInt (f (0 + ii) 0), avInt (f (0 + ii) 1), if avBool (f (0 + ii) 2) = true then 1 else 0] none k = M2 k,
 r = r,
 lm ≤ lm,
 h = h ∧ plainSh [CK.bool] = true ∨ ∀ (i : Nat), i < lm → rowOb [CK.bool] 0 (h i) (h i),
 false = false,
 G2.length ≤ G.length + 1,
 (entF (entAt G2) = fun i j => if i < G.length then entF (entAt G) (0 + i) j else rowsOf 6 [AV.sym IntKind.i64 (avInt (f (0 + ii) 0)), AV.sym IntKind.u32 (avInt (f (0 + ii) 1)), AV.symb (avBool (f (0 + ii) 2)), AV.sym IntKind.u64 (avInt (f (0 + ii) 3)), AV.sym IntKind.u64 (avInt (f (0 + ii) 4)), AV.sym IntKind.u64 (avInt (f (0 + ii) 5))] (i - G.length) j) ∧ plainSh eSh = true ∨ ∀ (i : Nat), i < G2.length → rowOb eSh 0 (fun j => if i < G.length then entF (entAt G) (0 + i) j else rowsOf 6 [AV.sym IntKind.i64 (avInt (f (0 + ii) 0)), AV.sym IntKind.u32 (avInt (f (0 + ii) 1)), AV.symb (avBool (f (0 + ii) 2)), AV.sym IntKind.u64 (avInt (f (0 + ii) 3)), AV.sym IntKind.u64 (avInt (f (0 + ii) 4)), AV.sym IntKind.u64 (avInt (f (0 + ii) 5))] (i - G.length) j) (entF (entAt G2) i),
 ((G.length + 1) * 40).ble 70368744177664 = true,
 (0 + G.length).ble G.length = true,
 avBool (h (0 + ii) 0) = true,
 (0 + ii).blt lm = true,
 (ii.blt m && decide (0 ≤ Int.ofNat ii)) = true,
 decide (Int.ofNat ii < Int.ofNat m) = true,
 (0 + ii).blt l = true,
 (ii.blt n && decide (0 ≤ Int.ofNat ii)) = true,
 decide (Int.ofNat ii < Int.ofNat n) = true]) := by kernel_rfl
theorem swb10_1 (n l m lm : Nat) (r : Bool) (f h : Nat → Nat → AV) (G S G2 S2 : List Ent) (M M2 M0 : List Int → Option Int) (ii : Nat) : roundB EA 3000 swL ((swU n l m lm r f h M0).hp) [(5, Src.nm 5), (6, Src.nm 9)] (swT10 n l m lm r f h G S M ii) [Hint.b true, Hint.b true, Hint.b false] (swT11 n l m lm r f h G2 S2 M2 (ii + 1)) =
 some (Ex.norm, [(0 : Nat) = 0,
 (0 : Nat) = 0,
 (0 : Nat) = 0,
 m = m,
 (none : Option Nat) = none,
 (0 : Nat) = 0,
 G.length = G2.length,
 (none : Option Nat) = none,
 (0 : Nat) = 0,
 1 = S2.length,
 (none : Option Nat) = none,
 (0 : Nat) = 0,
 n = n,
 (none : Option Nat) = none,
 Int.ofNat n = Int.ofNat n,
 IntKind.i64.wrap (Int.ofNat ii + 1) = Int.ofNat (ii + 1),
 (0 : Nat) = 0,
 n = n,
 (none : Option Nat) = none,
 false = false,
 l ≤ l,
 f = f ∧ plainSh eSh = true ∨ ∀ (i : Nat), i < l → rowOb eSh 0 (f i) (f i),
 ∀ (k : List Int), M k = M2 k,
 r = r,
 lm ≤ lm,
 h = h ∧ plainSh [CK.bool] = true ∨ ∀ (i : Nat), i < lm → rowOb [CK.bool] 0 (h i) (h i),
 false = false,
 G2.length ≤ G.length,
 entF (entAt G2) = entF (entAt G) ∧ plainSh eSh = true ∨ ∀ (i : Nat), i < G2.length → rowOb eSh 0 (entF (entAt G) i) (entF (entAt G2) i),
 S2.length = 1,
 ∀ (i : Nat), i < S2.length → rowOb eSh 0 (listRow 6 ([] ++ [AV.sym IntKind.i64 (avInt (f (0 + ii) 0)), AV.sym IntKind.u32 (avInt (f (0 + ii) 1)), AV.symb (avBool (f (0 + ii) 2)), AV.sym IntKind.u64 (avInt (f (0 + ii) 3)), AV.sym IntKind.u64 (avInt (f (0 + ii) 4)), AV.sym IntKind.u64 (avInt (f (0 + ii) 5))]) i) (entF (entAt S2) i),
 avBool (h (0 + ii) 0) = false,
 (0 + ii).blt lm = true,
 (ii.blt m && decide (0 ≤ Int.ofNat ii)) = true,
 decide (Int.ofNat ii < Int.ofNat m) = true,
 (0 + ii).blt l = true,
 (ii.blt n && decide (0 ≤ Int.ofNat ii)) = true,
 decide (Int.ofNat ii < Int.ofNat n) = true]) := by kernel_rfl
theorem swc10_1 (n l m lm : Nat) (r : Bool) (f h : Nat → Nat → AV) (G S G2 S2 : List Ent) (M M2 M0 : List Int → Option Int) (ii : Nat) : roundB EA 3000 swL ((swU n l m lm r f h M0).hp) [(5, Src.nm 5), (6, Src.nm 9)] (swT10 n l m lm r f h G S M ii) [Hint.b true, Hint.b false] (swT11 n l m lm r f h G2 S2 M2 (ii + 1)) =
 some (Ex.norm, [(0 : Nat) = 0,
 (0 : Nat) = 0,
 (0 : Nat) = 0,
 m = m,
 (none : Option Nat) = none,
 (0 : Nat) = 0,
 G.length = G2.length,
 (none : Option Nat) = none,
 (0 : Nat) = 0,
 1 = S2.length,
 (none : Option Nat) = none,
 (0 : Nat) = 0,
 n = n,
 (none : Option Nat) = none,
 Int.ofNat n = Int.ofNat n,
 IntKind.i64.wrap (Int.ofNat ii + 1) = Int.ofNat (ii + 1),
 (0 : Nat) = 0,
 n = n,
 (none : Option Nat) = none,
 false = false,
 l ≤ l,
 f = f ∧ plainSh eSh = true ∨ ∀ (i : Nat), i < l → rowOb eSh 0 (f i) (f i),
 ∀ (k : List Int), M k = M2 k,
 r = r,
 lm ≤ lm,
 h = h ∧ plainSh [CK.bool] = true ∨ ∀ (i : Nat), i < lm → rowOb [CK.bool] 0 (h i) (h i),
 false = false,
 G2.length ≤ G.length,
 entF (entAt G2) = entF (entAt G) ∧ plainSh eSh = true ∨ ∀ (i : Nat), i < G2.length → rowOb eSh 0 (entF (entAt G) i) (entF (entAt G2) i),
 S2.length = 1,
 ∀ (i : Nat), i < S2.length → rowOb eSh 0 (listRow 6 ([] ++ [AV.sym IntKind.i64 (avInt (f (0 + ii) 0)), AV.sym IntKind.u32 (avInt (f (0 + ii) 1)), AV.symb (avBool (f (0 + ii) 2)), AV.sym IntKind.u64 (avInt (f (0 + ii) 3)), AV.sym IntKind.u64 (avInt (f (0 + ii) 4)), AV.sym IntKind.u64 (avInt (f (0 + ii) 5))]) i) (entF (entAt S2) i),
 decide (Int.ofNat ii < Int.ofNat m) = false,
 (0 + ii).blt l = true,
 (ii.blt n && decide (0 ≤ Int.ofNat ii)) = true,
 decide (Int.ofNat ii < Int.ofNat n) = true]) := by kernel_rfl
theorem swx10_1 (n l m lm : Nat) (r : Bool) (f h : Nat → Nat → AV) (G S G2 S2 : List Ent) (M M2 M0 : List Int → Option Int) (ii : Nat) : roundB EA 3000 swL ((swU n l m lm r f h M0).hp) [(5, Src.nm 5)] (swT10 n l m lm r f h G S M ii) [Hint.b false] (swX10 n l m lm r f h G S M) =
 some (Ex.exit 0, [(0 : Nat) = 0,
 (0 : Nat) = 0,
 (0 : Nat) = 0,
 G.length = G.length,
 (none : Option Nat) = none,
 (0 : Nat) = 0,
 n = n,
 (none : Option Nat) = none,
 false = false,
 l ≤ l,
 f = f ∧ plainSh eSh = true ∨ ∀ (i : Nat), i < l → rowOb eSh 0 (f i) (f i),
 ∀ (k : List Int), M k = M k,
 r = r,
 lm ≤ lm,
 h = h ∧ plainSh [CK.bool] = true ∨ ∀ (i : Nat), i < lm → rowOb [CK.bool] 0 (h i) (h i),
 false = false,
 G.length ≤ G.length,
 entF (entAt G) = entF (entAt G) ∧ plainSh eSh = true ∨ ∀ (i : Nat), i < G.length → rowOb eSh 0 (entF (entAt G) i) (entF (entAt G) i),
 decide (Int.ofNat ii < Int.ofNat n) = false]) := by kernel_rfl
theorem swa11_1 (n l m lm : Nat) (r : Bool) (f h : Nat → Nat → AV) (G S G2 S2 : List Ent) (M M2 M0 : List Int → Option Int) (ii : Nat) : roundB EA 3000 swL ((swU n l m lm r f h M0).hp) [(5, Src.nm 1432108390954562068130770492362074629094780895143840845398939973542058535927045117761430665392583068753512924305807531066532549738824859460831230820354), (6, Src.nm 6)] (swT11 n l m lm r f h G S M ii) [Hint.b true, Hint.b true, Hint.b true] (swT11 n l m lm r f h G2 S2 M2 (ii + 1)) =
 some (Ex.norm, [(0 : Nat) = 0,
 (0 : Nat) = 0,
 (0 : Nat) = 0,
 m = m,
 (none : Option Nat) = none,
 (0 : Nat) = 0,
 G.length + 1 = G2.length,
 (none : Option Nat) = none,
 (0 : Nat) = 0,
 S.length = S2.length,
 (none : Option Nat) = none,
 (0 : Nat) = 0,
 n = n,
 (none : Option Nat) = none,
 Int.ofNat n = Int.ofNat n,
 IntKind.i64.wrap (Int.ofNat ii + 1) = Int.ofNat (ii + 1),
 (0 : Nat) = 0,
 n = n,
 (none : Option Nat) = none,
 false = false,
 l ≤ l,
 f = f ∧ plainSh eSh = true ∨ ∀ (i : Nat), i < l → rowOb eSh 0 (f i) (f i),
 ∀ (k : List Int), setKey M [avInt (f (0 + ii) 0), avInt (f (0 + ii) 1), if avBool (f (0 + ii) 2) = true then 1 else 0] none k = M2 k,
 r = r,
 lm ≤ lm,
 h = h ∧ plainSh [CK.bool] = true ∨ ∀ (i : Nat), i < lm → rowOb [CK.bool] 0 (h i) (h i),
 false = false,
 G2.length ≤ G.length + 1,
 (entF (entAt G2) = fun i j => if i < G.length then entF (entAt G) (0 + i) j else rowsOf 6 [AV.sym IntKind.i64 (avInt (f (0 + ii) 0)), AV.sym IntKind.u32 (avInt (f (0 + ii) 1)), AV.symb (avBool (f (0 + ii) 2)), AV.sym IntKind.u64 (avInt (f (0 + ii) 3)), AV.sym IntKind.u64 (avInt (f (0 + ii) 4)), AV.sym IntKind.u64 (avInt (f (0 + ii) 5))] (i - G.length) j) ∧ plainSh eSh = true ∨ ∀ (i : Nat), i < G2.length → rowOb eSh 0 (fun j => if i < G.length then entF (entAt G) (0 + i) j else rowsOf 6 [AV.sym IntKind.i64 (avInt (f (0 + ii) 0)), AV.sym IntKind.u32 (avInt (f (0 + ii) 1)), AV.symb (avBool (f (0 + ii) 2)), AV.sym IntKind.u64 (avInt (f (0 + ii) 3)), AV.sym IntKind.u64 (avInt (f (0 + ii) 4)), AV.sym IntKind.u64 (avInt (f (0 + ii) 5))] (i - G.length) j) (entF (entAt G2) i),
 false = false,
 S2.length ≤ S.length,
 entF (entAt S2) = entF (entAt S) ∧ plainSh eSh = true ∨ ∀ (i : Nat), i < S2.length → rowOb eSh 0 (entF (entAt S) i) (entF (entAt S2) i),
 ((G.length + 1) * 40).ble 70368744177664 = true,
 (0 + G.length).ble G.length = true,
 avBool (h (0 + ii) 0) = true,
 (0 + ii).blt lm = true,
 (ii.blt m && decide (0 ≤ Int.ofNat ii)) = true,
 decide (Int.ofNat ii < Int.ofNat m) = true,
 (0 + ii).blt l = true,
 (ii.blt n && decide (0 ≤ Int.ofNat ii)) = true,
 decide (Int.ofNat ii < Int.ofNat n) = true]) := by kernel_rfl
theorem swb11_1 (n l m lm : Nat) (r : Bool) (f h : Nat → Nat → AV) (G S G2 S2 : List Ent) (M M2 M0 : List Int → Option Int) (ii : Nat) : roundB EA 3000 swL ((swU n l m lm r f h M0).hp) [(5, Src.nm 5), (6, Src.nm 9)] (swT11 n l m lm r f h G S M ii) [Hint.b true, Hint.b true, Hint.b false] (swT11 n l m lm r f h G2 S2 M2 (ii + 1)) =
 some (Ex.norm, [(0 : Nat) = 0,
 (0 : Nat) = 0,
 (0 : Nat) = 0,
 m = m,
 (none : Option Nat) = none,
 (0 : Nat) = 0,
 G.length = G2.length,
 (none : Option Nat) = none,
 (0 : Nat) = 0,
 S.length + 1 = S2.length,
 (none : Option Nat) = none,
 (0 : Nat) = 0,
 n = n,
 (none : Option Nat) = none,
 Int.ofNat n = Int.ofNat n,
 IntKind.i64.wrap (Int.ofNat ii + 1) = Int.ofNat (ii + 1),
 (0 : Nat) = 0,
 n = n,
 (none : Option Nat) = none,
 false = false,
 l ≤ l,
 f = f ∧ plainSh eSh = true ∨ ∀ (i : Nat), i < l → rowOb eSh 0 (f i) (f i),
 ∀ (k : List Int), M k = M2 k,
 r = r,
 lm ≤ lm,
 h = h ∧ plainSh [CK.bool] = true ∨ ∀ (i : Nat), i < lm → rowOb [CK.bool] 0 (h i) (h i),
 false = false,
 G2.length ≤ G.length,
 entF (entAt G2) = entF (entAt G) ∧ plainSh eSh = true ∨ ∀ (i : Nat), i < G2.length → rowOb eSh 0 (entF (entAt G) i) (entF (entAt G2) i),
 false = false,
 S2.length ≤ S.length + 1,
 (entF (entAt S2) = fun i j => if i < S.length then entF (entAt S) (0 + i) j else rowsOf 6 [AV.sym IntKind.i64 (avInt (f (0 + ii) 0)), AV.sym IntKind.u32 (avInt (f (0 + ii) 1)), AV.symb (avBool (f (0 + ii) 2)), AV.sym IntKind.u64 (avInt (f (0 + ii) 3)), AV.sym IntKind.u64 (avInt (f (0 + ii) 4)), AV.sym IntKind.u64 (avInt (f (0 + ii) 5))] (i - S.length) j) ∧ plainSh eSh = true ∨ ∀ (i : Nat), i < S2.length → rowOb eSh 0 (fun j => if i < S.length then entF (entAt S) (0 + i) j else rowsOf 6 [AV.sym IntKind.i64 (avInt (f (0 + ii) 0)), AV.sym IntKind.u32 (avInt (f (0 + ii) 1)), AV.symb (avBool (f (0 + ii) 2)), AV.sym IntKind.u64 (avInt (f (0 + ii) 3)), AV.sym IntKind.u64 (avInt (f (0 + ii) 4)), AV.sym IntKind.u64 (avInt (f (0 + ii) 5))] (i - S.length) j) (entF (entAt S2) i),
 ((S.length + 1) * 40).ble 70368744177664 = true,
 (0 + S.length).ble S.length = true,
 avBool (h (0 + ii) 0) = false,
 (0 + ii).blt lm = true,
 (ii.blt m && decide (0 ≤ Int.ofNat ii)) = true,
 decide (Int.ofNat ii < Int.ofNat m) = true,
 (0 + ii).blt l = true,
 (ii.blt n && decide (0 ≤ Int.ofNat ii)) = true,
 decide (Int.ofNat ii < Int.ofNat n) = true]) := by kernel_rfl
theorem swc11_1 (n l m lm : Nat) (r : Bool) (f h : Nat → Nat → AV) (G S G2 S2 : List Ent) (M M2 M0 : List Int → Option Int) (ii : Nat) : roundB EA 3000 swL ((swU n l m lm r f h M0).hp) [(5, Src.nm 5), (6, Src.nm 9)] (swT11 n l m lm r f h G S M ii) [Hint.b true, Hint.b false] (swT11 n l m lm r f h G2 S2 M2 (ii + 1)) =
 some (Ex.norm, [(0 : Nat) = 0,
 (0 : Nat) = 0,
 (0 : Nat) = 0,
 m = m,
 (none : Option Nat) = none,
 (0 : Nat) = 0,
 G.length = G2.length,
 (none : Option Nat) = none,
 (0 : Nat) = 0,
 S.length + 1 = S2.length,
 (none : Option Nat) = none,
 (0 : Nat) = 0,
 n = n,
 (none : Option Nat) = none,
 Int.ofNat n = Int.ofNat n,
 IntKind.i64.wrap (Int.ofNat ii + 1) = Int.ofNat (ii + 1),
 (0 : Nat) = 0,
 n = n,
 (none : Option Nat) = none,
 false = false,
 l ≤ l,
 f = f ∧ plainSh eSh = true ∨ ∀ (i : Nat), i < l → rowOb eSh 0 (f i) (f i),
 ∀ (k : List Int), M k = M2 k,
 r = r,
 lm ≤ lm,
 h = h ∧ plainSh [CK.bool] = true ∨ ∀ (i : Nat), i < lm → rowOb [CK.bool] 0 (h i) (h i),
 false = false,
 G2.length ≤ G.length,
 entF (entAt G2) = entF (entAt G) ∧ plainSh eSh = true ∨ ∀ (i : Nat), i < G2.length → rowOb eSh 0 (entF (entAt G) i) (entF (entAt G2) i),
 false = false,
 S2.length ≤ S.length + 1,
 (entF (entAt S2) = fun i j => if i < S.length then entF (entAt S) (0 + i) j else rowsOf 6 [AV.sym IntKind.i64 (avInt (f (0 + ii) 0)), AV.sym IntKind.u32 (avInt (f (0 + ii) 1)), AV.symb (avBool (f (0 + ii) 2)), AV.sym IntKind.u64 (avInt (f (0 + ii) 3)), AV.sym IntKind.u64 (avInt (f (0 + ii) 4)), AV.sym IntKind.u64 (avInt (f (0 + ii) 5))] (i - S.length) j) ∧ plainSh eSh = true ∨ ∀ (i : Nat), i < S2.length → rowOb eSh 0 (fun j => if i < S.length then entF (entAt S) (0 + i) j else rowsOf 6 [AV.sym IntKind.i64 (avInt (f (0 + ii) 0)), AV.sym IntKind.u32 (avInt (f (0 + ii) 1)), AV.symb (avBool (f (0 + ii) 2)), AV.sym IntKind.u64 (avInt (f (0 + ii) 3)), AV.sym IntKind.u64 (avInt (f (0 + ii) 4)), AV.sym IntKind.u64 (avInt (f (0 + ii) 5))] (i - S.length) j) (entF (entAt S2) i),
 ((S.length + 1) * 40).ble 70368744177664 = true,
 (0 + S.length).ble S.length = true,
 decide (Int.ofNat ii < Int.ofNat m) = false,
 (0 + ii).blt l = true,
 (ii.blt n && decide (0 ≤ Int.ofNat ii)) = true,
 decide (Int.ofNat ii < Int.ofNat n) = true]) := by kernel_rfl
theorem swx11_1 (n l m lm : Nat) (r : Bool) (f h : Nat → Nat → AV) (G S G2 S2 : List Ent) (M M2 M0 : List Int → Option Int) (ii : Nat) : roundB EA 3000 swL ((swU n l m lm r f h M0).hp) [(5, Src.nm 5), (6, Src.nm 6)] (swT11 n l m lm r f h G S M ii) [Hint.b false] (swX11 n l m lm r f h G S M) =
 some (Ex.exit 0, [(0 : Nat) = 0,
 (0 : Nat) = 0,
 (0 : Nat) = 0,
 G.length = G.length,
 (none : Option Nat) = none,
 (0 : Nat) = 0,
 S.length = S.length,
 (none : Option Nat) = none,
 (0 : Nat) = 0,
 n = n,
 (none : Option Nat) = none,
 false = false,
 l ≤ l,
 f = f ∧ plainSh eSh = true ∨ ∀ (i : Nat), i < l → rowOb eSh 0 (f i) (f i),
 ∀ (k : List Int), M k = M k,
 r = r,
 lm ≤ lm,
 h = h ∧ plainSh [CK.bool] = true ∨ ∀ (i : Nat), i < lm → rowOb [CK.bool] 0 (h i) (h i),
 false = false,
 G.length ≤ G.length,
 entF (entAt G) = entF (entAt G) ∧ plainSh eSh = true ∨ ∀ (i : Nat), i < G.length → rowOb eSh 0 (entF (entAt G) i) (entF (entAt G) i),
 false = false,
 S.length ≤ S.length,
 entF (entAt S) = entF (entAt S) ∧ plainSh eSh = true ∨ ∀ (i : Nat), i < S.length → rowOb eSh 0 (entF (entAt S) i) (entF (entAt S) i),
 decide (Int.ofNat ii < Int.ofNat n) = false]) := by kernel_rfl
theorem swi_1 (n l m lm : Nat) (r : Bool) (f h : Nat → Nat → AV) (M : List Int → Option Int) : castSt ((swU n l m lm r f h M).hp) [] (swU n l m lm r f h M) (swT00 n l m lm r f h [] [] M 0) =
 some ([(0 : Nat) = 0,
 (0 : Nat) = 0,
 (0 : Nat) = 0,
 m = m,
 (none : Option Nat) = none,
 (0 : Nat) = 0,
 n = n,
 (none : Option Nat) = none,
 Int.ofNat n = Int.ofNat n,
 (0 : Int) = 0,
 (0 : Nat) = 0,
 n = n,
 (none : Option Nat) = none,
 false = false,
 l ≤ l,
 f = f ∧ plainSh eSh = true ∨ ∀ (i : Nat), i < l → rowOb eSh 0 (f i) (f i),
 ∀ (k : List Int), M k = M k,
 r = r,
 lm ≤ lm,
 h = h ∧ plainSh [CK.bool] = true ∨ ∀ (i : Nat), i < lm → rowOb [CK.bool] 0 (h i) (h i)]) := by kernel_rfl
theorem snc00_1 (n l m lm : Nat) (r : Bool) (f h : Nat → Nat → AV) (G S G2 S2 : List Ent) (M M2 M0 : List Int → Option Int) (ii : Nat) : roundB EA 3000 swL ((snU n l m lm r f h M0).hp) [(6, Src.nm 9)] (snT00 n l m lm r f h G S M ii) [Hint.b true, Hint.b false] (snT01 n l m lm r f h G2 S2 M2 (ii + 1)) =
 some (Ex.norm, [(0 : Nat) = 0,
 (0 : Nat) = 0,
 (0 : Nat) = 0,
 1 = S2.length,
 (none : Option Nat) = none,
 (0 : Nat) = 0,
 n = n,
 (none : Option Nat) = none,
 Int.ofNat n = Int.ofNat n,
 IntKind.i64.wrap (Int.ofNat ii + 1) = Int.ofNat (ii + 1),
 (0 : Nat) = 0,
 n = n,
 (none : Option Nat) = none,
 false = false,
 l ≤ l,
 f = f ∧ plainSh eSh = true ∨ ∀ (i : Nat), i < l → rowOb eSh 0 (f i) (f i),
 ∀ (k : List Int), M k = M2 k,
 S2.length = 1,
 ∀ (i : Nat), i < S2.length → rowOb eSh 0 (listRow 6 ([] ++ [AV.sym IntKind.i64 (avInt (f (0 + ii) 0)), AV.sym IntKind.u32 (avInt (f (0 + ii) 1)), AV.symb (avBool (f (0 + ii) 2)), AV.sym IntKind.u64 (avInt (f (0 + ii) 3)), AV.sym IntKind.u64 (avInt (f (0 + ii) 4)), AV.sym IntKind.u64 (avInt (f (0 + ii) 5))]) i) (entF (entAt S2) i),
 decide (Int.ofNat ii < 0) = false,
 (0 + ii).blt l = true,
 (ii.blt n && decide (0 ≤ Int.ofNat ii)) = true,
 decide (Int.ofNat ii < Int.ofNat n) = true]) := by kernel_rfl
theorem snx00_1 (n l m lm : Nat) (r : Bool) (f h : Nat → Nat → AV) (G S G2 S2 : List Ent) (M M2 M0 : List Int → Option Int) (ii : Nat) : roundB EA 3000 swL ((snU n l m lm r f h M0).hp) [] (snT00 n l m lm r f h G S M ii) [Hint.b false] (snX00 n l m lm r f h G S M) =
 some (Ex.exit 0, [(0 : Nat) = 0,
 (0 : Nat) = 0,
 (0 : Nat) = 0,
 n = n,
 (none : Option Nat) = none,
 false = false,
 l ≤ l,
 f = f ∧ plainSh eSh = true ∨ ∀ (i : Nat), i < l → rowOb eSh 0 (f i) (f i),
 ∀ (k : List Int), M k = M k,
 decide (Int.ofNat ii < Int.ofNat n) = false]) := by kernel_rfl
theorem snc01_1 (n l m lm : Nat) (r : Bool) (f h : Nat → Nat → AV) (G S G2 S2 : List Ent) (M M2 M0 : List Int → Option Int) (ii : Nat) : roundB EA 3000 swL ((snU n l m lm r f h M0).hp) [(6, Src.nm 9)] (snT01 n l m lm r f h G S M ii) [Hint.b true, Hint.b false] (snT01 n l m lm r f h G2 S2 M2 (ii + 1)) =
 some (Ex.norm, [(0 : Nat) = 0,
 (0 : Nat) = 0,
 (0 : Nat) = 0,
 S.length + 1 = S2.length,
 (none : Option Nat) = none,
 (0 : Nat) = 0,
 n = n,
 (none : Option Nat) = none,
 Int.ofNat n = Int.ofNat n,
 IntKind.i64.wrap (Int.ofNat ii + 1) = Int.ofNat (ii + 1),
 (0 : Nat) = 0,
 n = n,
 (none : Option Nat) = none,
 false = false,
 l ≤ l,
 f = f ∧ plainSh eSh = true ∨ ∀ (i : Nat), i < l → rowOb eSh 0 (f i) (f i),
 ∀ (k : List Int), M k = M2 k,
 false = false,
 S2.length ≤ S.length + 1,
 (entF (entAt S2) = fun i j => if i < S.length then entF (entAt S) (0 + i) j else rowsOf 6 [AV.sym IntKind.i64 (avInt (f (0 + ii) 0)), AV.sym IntKind.u32 (avInt (f (0 + ii) 1)), AV.symb (avBool (f (0 + ii) 2)), AV.sym IntKind.u64 (avInt (f (0 + ii) 3)), AV.sym IntKind.u64 (avInt (f (0 + ii) 4)), AV.sym IntKind.u64 (avInt (f (0 + ii) 5))] (i - S.length) j) ∧ plainSh eSh = true ∨ ∀ (i : Nat), i < S2.length → rowOb eSh 0 (fun j => if i < S.length then entF (entAt S) (0 + i) j else rowsOf 6 [AV.sym IntKind.i64 (avInt (f (0 + ii) 0)), AV.sym IntKind.u32 (avInt (f (0 + ii) 1)), AV.symb (avBool (f (0 + ii) 2)), AV.sym IntKind.u64 (avInt (f (0 + ii) 3)), AV.sym IntKind.u64 (avInt (f (0 + ii) 4)), AV.sym IntKind.u64 (avInt (f (0 + ii) 5))] (i - S.length) j) (entF (entAt S2) i),
 ((S.length + 1) * 40).ble 70368744177664 = true,
 (0 + S.length).ble S.length = true,
 decide (Int.ofNat ii < 0) = false,
 (0 + ii).blt l = true,
 (ii.blt n && decide (0 ≤ Int.ofNat ii)) = true,
 decide (Int.ofNat ii < Int.ofNat n) = true]) := by kernel_rfl
theorem snx01_1 (n l m lm : Nat) (r : Bool) (f h : Nat → Nat → AV) (G S G2 S2 : List Ent) (M M2 M0 : List Int → Option Int) (ii : Nat) : roundB EA 3000 swL ((snU n l m lm r f h M0).hp) [(6, Src.nm 6)] (snT01 n l m lm r f h G S M ii) [Hint.b false] (snX01 n l m lm r f h G S M) =
 some (Ex.exit 0, [(0 : Nat) = 0,
 (0 : Nat) = 0,
 (0 : Nat) = 0,
 S.length = S.length,
 (none : Option Nat) = none,
 (0 : Nat) = 0,
 n = n,
 (none : Option Nat) = none,
 false = false,
 l ≤ l,
 f = f ∧ plainSh eSh = true ∨ ∀ (i : Nat), i < l → rowOb eSh 0 (f i) (f i),
 ∀ (k : List Int), M k = M k,
 false = false,
 S.length ≤ S.length,
 entF (entAt S) = entF (entAt S) ∧ plainSh eSh = true ∨ ∀ (i : Nat), i < S.length → rowOb eSh 0 (entF (entAt S) i) (entF (entAt S) i),
 decide (Int.ofNat ii < Int.ofNat n) = false]) := by kernel_rfl
theorem sni_1 (n l m lm : Nat) (r : Bool) (f h : Nat → Nat → AV) (M : List Int → Option Int) : castSt ((snU n l m lm r f h M).hp) [] (snU n l m lm r f h M) (snT00 n l m lm r f h [] [] M 0) =
 some ([(0 : Nat) = 0,
 (0 : Nat) = 0,
 (0 : Nat) = 0,
 n = n,
 (none : Option Nat) = none,
 Int.ofNat n = Int.ofNat n,
 (0 : Int) = 0,
 (0 : Nat) = 0,
 n = n,
 (none : Option Nat) = none,
 false = false,
 l ≤ l,
 f = f ∧ plainSh eSh = true ∨ ∀ (i : Nat), i < l → rowOb eSh 0 (f i) (f i),
 ∀ (k : List Int), M k = M k]) := by kernel_rfl
theorem swQ00 (n l m lm : Nat) (r : Bool) (f h : Nat → Nat → AV) {G S : List Ent} {M : List Int → Option Int} (i : Nat) (hg : G = []) (hs : S = []) : swQ n l m lm r f h G S M i = swT00 n l m lm r f h G S M i := by
  subst hg
  subst hs
  rfl
theorem swQ01 (n l m lm : Nat) (r : Bool) (f h : Nat → Nat → AV) {G S : List Ent} {M : List Int → Option Int} (i : Nat) (hg : G = []) (hs : S ≠ []) : swQ n l m lm r f h G S M i = swT01 n l m lm r f h G S M i := by
  subst hg
  obtain ⟨a, t, rfl⟩ := List.exists_cons_of_ne_nil hs
  rfl
theorem swQ10 (n l m lm : Nat) (r : Bool) (f h : Nat → Nat → AV) {G S : List Ent} {M : List Int → Option Int} (i : Nat) (hg : G ≠ []) (hs : S = []) : swQ n l m lm r f h G S M i = swT10 n l m lm r f h G S M i := by
  obtain ⟨b, u, rfl⟩ := List.exists_cons_of_ne_nil hg
  subst hs
  rfl
theorem swQ11 (n l m lm : Nat) (r : Bool) (f h : Nat → Nat → AV) {G S : List Ent} {M : List Int → Option Int} (i : Nat) (hg : G ≠ []) (hs : S ≠ []) : swQ n l m lm r f h G S M i = swT11 n l m lm r f h G S M i := by
  obtain ⟨b, u, rfl⟩ := List.exists_cons_of_ne_nil hg
  obtain ⟨a, t, rfl⟩ := List.exists_cons_of_ne_nil hs
  rfl
theorem swW00 (n l m lm : Nat) (r : Bool) (f h : Nat → Nat → AV) {G S : List Ent} {M : List Int → Option Int} (hg : G = []) (hs : S = []) : swW n l m lm r f h G S M = swX00 n l m lm r f h G S M := by
  subst hg
  subst hs
  rfl
theorem swW01 (n l m lm : Nat) (r : Bool) (f h : Nat → Nat → AV) {G S : List Ent} {M : List Int → Option Int} (hg : G = []) (hs : S ≠ []) : swW n l m lm r f h G S M = swX01 n l m lm r f h G S M := by
  subst hg
  obtain ⟨a, t, rfl⟩ := List.exists_cons_of_ne_nil hs
  rfl
theorem swW10 (n l m lm : Nat) (r : Bool) (f h : Nat → Nat → AV) {G S : List Ent} {M : List Int → Option Int} (hg : G ≠ []) (hs : S = []) : swW n l m lm r f h G S M = swX10 n l m lm r f h G S M := by
  obtain ⟨b, u, rfl⟩ := List.exists_cons_of_ne_nil hg
  subst hs
  rfl
theorem swW11 (n l m lm : Nat) (r : Bool) (f h : Nat → Nat → AV) {G S : List Ent} {M : List Int → Option Int} (hg : G ≠ []) (hs : S ≠ []) : swW n l m lm r f h G S M = swX11 n l m lm r f h G S M := by
  obtain ⟨b, u, rfl⟩ := List.exists_cons_of_ne_nil hg
  obtain ⟨a, t, rfl⟩ := List.exists_cons_of_ne_nil hs
  rfl
theorem snQ00 (n l m lm : Nat) (r : Bool) (f h : Nat → Nat → AV) {G S : List Ent} {M : List Int → Option Int} (i : Nat) (hg : G = []) (hs : S = []) : snQ n l m lm r f h G S M i = snT00 n l m lm r f h G S M i := by
  subst hg
  subst hs
  rfl
theorem snQ01 (n l m lm : Nat) (r : Bool) (f h : Nat → Nat → AV) {G S : List Ent} {M : List Int → Option Int} (i : Nat) (hg : G = []) (hs : S ≠ []) : snQ n l m lm r f h G S M i = snT01 n l m lm r f h G S M i := by
  subst hg
  obtain ⟨a, t, rfl⟩ := List.exists_cons_of_ne_nil hs
  rfl
theorem snW00 (n l m lm : Nat) (r : Bool) (f h : Nat → Nat → AV) {G S : List Ent} {M : List Int → Option Int} (hg : G = []) (hs : S = []) : snW n l m lm r f h G S M = snX00 n l m lm r f h G S M := by
  subst hg
  subst hs
  rfl
theorem snW01 (n l m lm : Nat) (r : Bool) (f h : Nat → Nat → AV) {G S : List Ent} {M : List Int → Option Int} (hg : G = []) (hs : S ≠ []) : snW n l m lm r f h G S M = snX01 n l m lm r f h G S M := by
  subst hg
  obtain ⟨a, t, rfl⟩ := List.exists_cons_of_ne_nil hs
  rfl
theorem swP_t {m : Nat} {h : Nat → Nat → AV} {i : Nat} (e : swP m h i = true) : i < m ∧ avBool (h (0 + i) 0) = true := by
  unfold swP at e
  cases c : decide (i < m) with
  | false => rw [c] at e; cases e
  | true => rw [c] at e; exact ⟨of_decide_eq_true c, e⟩
theorem swP_f {m : Nat} {h : Nat → Nat → AV} {i : Nat} (e : swP m h i = false) (c : i < m) : avBool (h (0 + i) 0) = false := by
  unfold swP at e
  rw [decide_eq_true c] at e; exact e
theorem sw_lp (n l m lm : Nat) (r : Bool) (f h : Nat → Nat → AV) (M : List Int → Option Int) (hl : n ≤ l) (hlim : n ≤ 1000000) (hm : m ≤ lm) (hml : m ≤ 1000000) : swLP n l m lm r f h M (swG (fun i => entOf (f (0 + i))) (swP m h) n) (swS (fun i => entOf (f (0 + i))) (swP m h) n) (swM M (fun i => entOf (f (0 + i))) (swP m h) n) := by
  refine loop_rule EA_ok (I := Nat) (fun i => swQ n l m lm r f h (swG (fun i => entOf (f (0 + i))) (swP m h) i) (swS (fun i => entOf (f (0 + i))) (swP m h) i) (swM M (fun i => entOf (f (0 + i))) (swP m h) i) i) (fun i => n - i) (fun i => i ≤ n) ?_ (fun ii hi => ?_)
  ·
    refine ⟨0, [], _, Nat.zero_le _, swi_1 .., (ob_cons rfl (ob_cons rfl (ob_cons rfl (ob_cons rfl (ob_cons rfl (ob_cons rfl (ob_cons rfl (ob_cons rfl (ob_cons rfl (ob_cons rfl (ob_cons rfl (ob_cons rfl (ob_cons rfl (ob_cons rfl (ob_cons (Nat.le_refl _) (ob_cons (.inl ⟨rfl, rfl⟩) (ob_cons (fun _ => rfl) (ob_cons rfl (ob_cons (Nat.le_refl _) (ob_cons (.inl ⟨rfl, rfl⟩) ob_nil))))))))))))))))))))⟩
  have hGl : (swG (fun i => entOf (f (0 + i))) (swP m h) ii).length ≤ ii := swG_len _ _ ii
  have hSl : (swS (fun i => entOf (f (0 + i))) (swP m h) ii).length ≤ ii := swS_len _ _ ii
  by_cases hin : ii < n
  · cases hp : swP m h ii with
    | true =>
      obtain ⟨him, hb⟩ := swP_t hp
      have hG2 := swG_t (E := fun i => entOf (f (0 + i))) (p := swP m h) hp
      have hS2 := swS_t (E := fun i => entOf (f (0 + i))) (p := swP m h) hp
      have hM2 := swM_t (M := M) (E := fun i => entOf (f (0 + i))) (p := swP m h) hp
      by_cases hG0 : (swG (fun i => entOf (f (0 + i))) (swP m h) ii) = []
      · by_cases hS0 : (swS (fun i => entOf (f (0 + i))) (swP m h) ii) = []
        · have keyswa00 := swa00_1 n l m lm r f h (swG (fun i => entOf (f (0 + i))) (swP m h) ii) (swS (fun i => entOf (f (0 + i))) (swP m h) ii) (swG (fun i => entOf (f (0 + i))) (swP m h) (ii + 1)) (swS (fun i => entOf (f (0 + i))) (swP m h) (ii + 1)) (swM M (fun i => entOf (f (0 + i))) (swP m h) ii) (swM M (fun i => entOf (f (0 + i))) (swP m h) (ii + 1)) M ii
          rw [← swQ00 n l m lm r f h ii hG0 hS0, ← swQ10 n l m lm r f h (ii + 1) (by rw [hG2]; simp) (by rw [hS2]; exact hS0)] at keyswa00
          refine round_norm (s0 := swU n l m lm r f h M) (T := fun i => swQ n l m lm r f h (swG (fun i => entOf (f (0 + i))) (swP m h) i) (swS (fun i => entOf (f (0 + i))) (swP m h) i) (swM M (fun i => entOf (f (0 + i))) (swP m h) i) i) (i := ii) (ii + 1) (keyswa00) (ob_cons rfl (ob_cons rfl (ob_cons rfl (ob_cons rfl (ob_cons rfl (ob_cons rfl (ob_cons ?_ (ob_cons rfl (ob_cons rfl (ob_cons rfl (ob_cons rfl (ob_cons rfl (ob_cons ?_ (ob_cons rfl (ob_cons rfl (ob_cons rfl (ob_cons rfl (ob_cons (Nat.le_refl _) (ob_cons (.inl ⟨rfl, rfl⟩) (ob_cons ?_ (ob_cons rfl (ob_cons (Nat.le_refl _) (ob_cons (.inl ⟨rfl, rfl⟩) (ob_cons ?_ (ob_cons ?_ (ob_cons ?_ (ob_cons ?_ (ob_cons ?_ (ob_cons ?_ (ob_cons ?_ (ob_cons ?_ (ob_cons ?_ ob_nil)))))))))))))))))))))))))))))))) (by show ii + 1 ≤ n; omega) (by show n - (ii + 1) < n - ii; omega)
          · (rw [hG2, hG0]; rfl)
          · exact wrap_nat64 _ (by simp; omega) (by simp; omega)
          · (rw [hM2]; exact fun _ => rfl)
          · (rw [hG2, hG0]; rfl)
          · (rw [hG2]; exact one_rows (z := listRow 6 _) hG0 rfl)
          · with_reducible assumption
          · (simp; omega)
          · (simp; omega)
          · (simp; omega)
          · (simp; omega)
          · (simp; omega)
          · (simp; omega)
        · have keyswa01 := swa01_1 n l m lm r f h (swG (fun i => entOf (f (0 + i))) (swP m h) ii) (swS (fun i => entOf (f (0 + i))) (swP m h) ii) (swG (fun i => entOf (f (0 + i))) (swP m h) (ii + 1)) (swS (fun i => entOf (f (0 + i))) (swP m h) (ii + 1)) (swM M (fun i => entOf (f (0 + i))) (swP m h) ii) (swM M (fun i => entOf (f (0 + i))) (swP m h) (ii + 1)) M ii
          rw [← swQ01 n l m lm r f h ii hG0 hS0, ← swQ11 n l m lm r f h (ii + 1) (by rw [hG2]; simp) (by rw [hS2]; exact hS0)] at keyswa01
          refine round_norm (s0 := swU n l m lm r f h M) (T := fun i => swQ n l m lm r f h (swG (fun i => entOf (f (0 + i))) (swP m h) i) (swS (fun i => entOf (f (0 + i))) (swP m h) i) (swM M (fun i => entOf (f (0 + i))) (swP m h) i) i) (i := ii) (ii + 1) (keyswa01) (ob_cons rfl (ob_cons rfl (ob_cons rfl (ob_cons rfl (ob_cons rfl (ob_cons rfl (ob_cons ?_ (ob_cons rfl (ob_cons rfl (ob_cons ?_ (ob_cons rfl (ob_cons rfl (ob_cons rfl (ob_cons rfl (ob_cons rfl (ob_cons ?_ (ob_cons rfl (ob_cons rfl (ob_cons rfl (ob_cons rfl (ob_cons (Nat.le_refl _) (ob_cons (.inl ⟨rfl, rfl⟩) (ob_cons ?_ (ob_cons rfl (ob_cons (Nat.le_refl _) (ob_cons (.inl ⟨rfl, rfl⟩) (ob_cons ?_ (ob_cons ?_ (ob_cons rfl (ob_cons ?_ (ob_cons ?_ (ob_cons ?_ (ob_cons ?_ (ob_cons ?_ (ob_cons ?_ (ob_cons ?_ (ob_cons ?_ (ob_cons ?_ ob_nil)))))))))))))))))))))))))))))))))))))) (by show ii + 1 ≤ n; omega) (by show n - (ii + 1) < n - ii; omega)
          · (rw [hG2, hG0]; rfl)
          · (rw [hS2]; done)
          · exact wrap_nat64 _ (by simp; omega) (by simp; omega)
          · (rw [hM2]; exact fun _ => rfl)
          · (rw [hG2, hG0]; rfl)
          · (rw [hG2]; exact one_rows (z := listRow 6 _) hG0 rfl)
          · (rw [hS2]; simp; done)
          · (rw [hS2]; exact .inl ⟨rfl, rfl⟩)
          · with_reducible assumption
          · (simp; omega)
          · (simp; omega)
          · (simp; omega)
          · (simp; omega)
          · (simp; omega)
          · (simp; omega)
      · by_cases hS0 : (swS (fun i => entOf (f (0 + i))) (swP m h) ii) = []
        · have keyswa10 := swa10_1 n l m lm r f h (swG (fun i => entOf (f (0 + i))) (swP m h) ii) (swS (fun i => entOf (f (0 + i))) (swP m h) ii) (swG (fun i => entOf (f (0 + i))) (swP m h) (ii + 1)) (swS (fun i => entOf (f (0 + i))) (swP m h) (ii + 1)) (swM M (fun i => entOf (f (0 + i))) (swP m h) ii) (swM M (fun i => entOf (f (0 + i))) (swP m h) (ii + 1)) M ii
          rw [← swQ10 n l m lm r f h ii hG0 hS0, ← swQ10 n l m lm r f h (ii + 1) (by rw [hG2]; simp) (by rw [hS2]; exact hS0)] at keyswa10
          refine round_norm (s0 := swU n l m lm r f h M) (T := fun i => swQ n l m lm r f h (swG (fun i => entOf (f (0 + i))) (swP m h) i) (swS (fun i => entOf (f (0 + i))) (swP m h) i) (swM M (fun i => entOf (f (0 + i))) (swP m h) i) i) (i := ii) (ii + 1) (keyswa10) (ob_cons rfl (ob_cons rfl (ob_cons rfl (ob_cons rfl (ob_cons rfl (ob_cons rfl (ob_cons ?_ (ob_cons rfl (ob_cons rfl (ob_cons rfl (ob_cons rfl (ob_cons rfl (ob_cons ?_ (ob_cons rfl (ob_cons rfl (ob_cons rfl (ob_cons rfl (ob_cons (Nat.le_refl _) (ob_cons (.inl ⟨rfl, rfl⟩) (ob_cons ?_ (ob_cons rfl (ob_cons (Nat.le_refl _) (ob_cons (.inl ⟨rfl, rfl⟩) (ob_cons rfl (ob_cons ?_ (ob_cons ?_ (ob_cons ?_ (ob_cons ?_ (ob_cons ?_ (ob_cons ?_ (ob_cons ?_ (ob_cons ?_ (ob_cons ?_ (ob_cons ?_ (ob_cons ?_ ob_nil))))))))))))))))))))))))))))))))))) (by show ii + 1 ≤ n; omega) (by show n - (ii + 1) < n - ii; omega)
          · (rw [hG2]; simp; done)
          · exact wrap_nat64 _ (by simp; omega) (by simp; omega)
          · (rw [hM2]; exact fun _ => rfl)
          · (rw [hG2]; simp; done)
          · (rw [hG2]; exact .inr (app_rows rfl _ (by simp)))
          · (apply Nat.ble_eq_true_of_le; omega)
          · (simp; done)
          · with_reducible assumption
          · (simp; omega)
          · (simp; omega)
          · (simp; omega)
          · (simp; omega)
          · (simp; omega)
          · (simp; omega)
        · have keyswa11 := swa11_1 n l m lm r f h (swG (fun i => entOf (f (0 + i))) (swP m h) ii) (swS (fun i => entOf (f (0 + i))) (swP m h) ii) (swG (fun i => entOf (f (0 + i))) (swP m h) (ii + 1)) (swS (fun i => entOf (f (0 + i))) (swP m h) (ii + 1)) (swM M (fun i => entOf (f (0 + i))) (swP m h) ii) (swM M (fun i => entOf (f (0 + i))) (swP m h) (ii + 1)) M ii
          rw [← swQ11 n l m lm r f h ii hG0 hS0, ← swQ11 n l m lm r f h (ii + 1) (by rw [hG2]; simp) (by rw [hS2]; exact hS0)] at keyswa11
          refine round_norm (s0 := swU n l m lm r f h M) (T := fun i => swQ n l m lm r f h (swG (fun i => entOf (f (0 + i))) (swP m h) i) (swS (fun i => entOf (f (0 + i))) (swP m h) i) (swM M (fun i => entOf (f (0 + i))) (swP m h) i) i) (i := ii) (ii + 1) (keyswa11) (ob_cons rfl (ob_cons rfl (ob_cons rfl (ob_cons rfl (ob_cons rfl (ob_cons rfl (ob_cons ?_ (ob_cons rfl (ob_cons rfl (ob_cons ?_ (ob_cons rfl (ob_cons rfl (ob_cons rfl (ob_cons rfl (ob_cons rfl (ob_cons ?_ (ob_cons rfl (ob_cons rfl (ob_cons rfl (ob_cons rfl (ob_cons (Nat.le_refl _) (ob_cons (.inl ⟨rfl, rfl⟩) (ob_cons ?_ (ob_cons rfl (ob_cons (Nat.le_refl _) (ob_cons (.inl ⟨rfl, rfl⟩) (ob_cons rfl (ob_cons ?_ (ob_cons ?_ (ob_cons rfl (ob_cons ?_ (ob_cons ?_ (ob_cons ?_ (ob_cons ?_ (ob_cons ?_ (ob_cons ?_ (ob_cons ?_ (ob_cons ?_ (ob_cons ?_ (ob_cons ?_ (ob_cons ?_ ob_nil))))))))))))))))))))))))))))))))))))))))) (by show ii + 1 ≤ n; omega) (by show n - (ii + 1) < n - ii; omega)
          · (rw [hG2]; simp; done)
          · (rw [hS2]; done)
          · exact wrap_nat64 _ (by simp; omega) (by simp; omega)
          · (rw [hM2]; exact fun _ => rfl)
          · (rw [hG2]; simp; done)
          · (rw [hG2]; exact .inr (app_rows rfl _ (by simp)))
          · (rw [hS2]; simp; done)
          · (rw [hS2]; exact .inl ⟨rfl, rfl⟩)
          · (apply Nat.ble_eq_true_of_le; omega)
          · (simp; done)
          · with_reducible assumption
          · (simp; omega)
          · (simp; omega)
          · (simp; omega)
          · (simp; omega)
          · (simp; omega)
          · (simp; omega)
    | false =>
      have hG2 := swG_f (E := fun i => entOf (f (0 + i))) (p := swP m h) hp
      have hS2 := swS_f (E := fun i => entOf (f (0 + i))) (p := swP m h) hp
      have hM2 := swM_f (M := M) (E := fun i => entOf (f (0 + i))) (p := swP m h) hp
      by_cases him : ii < m
      · have hb := swP_f hp him
        by_cases hG0 : (swG (fun i => entOf (f (0 + i))) (swP m h) ii) = []
        · by_cases hS0 : (swS (fun i => entOf (f (0 + i))) (swP m h) ii) = []
          · have keyswb00 := swb00_1 n l m lm r f h (swG (fun i => entOf (f (0 + i))) (swP m h) ii) (swS (fun i => entOf (f (0 + i))) (swP m h) ii) (swG (fun i => entOf (f (0 + i))) (swP m h) (ii + 1)) (swS (fun i => entOf (f (0 + i))) (swP m h) (ii + 1)) (swM M (fun i => entOf (f (0 + i))) (swP m h) ii) (swM M (fun i => entOf (f (0 + i))) (swP m h) (ii + 1)) M ii
            rw [← swQ00 n l m lm r f h ii hG0 hS0, ← swQ01 n l m lm r f h (ii + 1) (by rw [hG2]; exact hG0) (by rw [hS2]; simp)] at keyswb00
            refine round_norm (s0 := swU n l m lm r f h M) (T := fun i => swQ n l m lm r f h (swG (fun i => entOf (f (0 + i))) (swP m h) i) (swS (fun i => entOf (f (0 + i))) (swP m h) i) (swM M (fun i => entOf (f (0 + i))) (swP m h) i) i) (i := ii) (ii + 1) (keyswb00) (ob_cons rfl (ob_cons rfl (ob_cons rfl (ob_cons rfl (ob_cons rfl (ob_cons rfl (ob_cons ?_ (ob_cons rfl (ob_cons rfl (ob_cons rfl (ob_cons rfl (ob_cons rfl (ob_cons ?_ (ob_cons rfl (ob_cons rfl (ob_cons rfl (ob_cons rfl (ob_cons (Nat.le_refl _) (ob_cons (.inl ⟨rfl, rfl⟩) (ob_cons ?_ (ob_cons rfl (ob_cons (Nat.le_refl _) (ob_cons (.inl ⟨rfl, rfl⟩) (ob_cons ?_ (ob_cons ?_ (ob_cons ?_ (ob_cons ?_ (ob_cons ?_ (ob_cons ?_ (ob_cons ?_ (ob_cons ?_ (ob_cons ?_ ob_nil)))))))))))))))))))))))))))))))) (by show ii + 1 ≤ n; omega) (by show n - (ii + 1) < n - ii; omega)
            · (rw [hS2, hS0]; rfl)
            · exact wrap_nat64 _ (by simp; omega) (by simp; omega)
            · (rw [hM2]; exact fun _ => rfl)
            · (rw [hS2, hS0]; rfl)
            · (rw [hS2]; exact one_rows (z := listRow 6 _) hS0 rfl)
            · with_reducible assumption
            · (simp; omega)
            · (simp; omega)
            · (simp; omega)
            · (simp; omega)
            · (simp; omega)
            · (simp; omega)
          · have keyswb01 := swb01_1 n l m lm r f h (swG (fun i => entOf (f (0 + i))) (swP m h) ii) (swS (fun i => entOf (f (0 + i))) (swP m h) ii) (swG (fun i => entOf (f (0 + i))) (swP m h) (ii + 1)) (swS (fun i => entOf (f (0 + i))) (swP m h) (ii + 1)) (swM M (fun i => entOf (f (0 + i))) (swP m h) ii) (swM M (fun i => entOf (f (0 + i))) (swP m h) (ii + 1)) M ii
            rw [← swQ01 n l m lm r f h ii hG0 hS0, ← swQ01 n l m lm r f h (ii + 1) (by rw [hG2]; exact hG0) (by rw [hS2]; simp)] at keyswb01
            refine round_norm (s0 := swU n l m lm r f h M) (T := fun i => swQ n l m lm r f h (swG (fun i => entOf (f (0 + i))) (swP m h) i) (swS (fun i => entOf (f (0 + i))) (swP m h) i) (swM M (fun i => entOf (f (0 + i))) (swP m h) i) i) (i := ii) (ii + 1) (keyswb01) (ob_cons rfl (ob_cons rfl (ob_cons rfl (ob_cons rfl (ob_cons rfl (ob_cons rfl (ob_cons ?_ (ob_cons rfl (ob_cons rfl (ob_cons rfl (ob_cons rfl (ob_cons rfl (ob_cons ?_ (ob_cons rfl (ob_cons rfl (ob_cons rfl (ob_cons rfl (ob_cons (Nat.le_refl _) (ob_cons (.inl ⟨rfl, rfl⟩) (ob_cons ?_ (ob_cons rfl (ob_cons (Nat.le_refl _) (ob_cons (.inl ⟨rfl, rfl⟩) (ob_cons rfl (ob_cons ?_ (ob_cons ?_ (ob_cons ?_ (ob_cons ?_ (ob_cons ?_ (ob_cons ?_ (ob_cons ?_ (ob_cons ?_ (ob_cons ?_ (ob_cons ?_ (ob_cons ?_ ob_nil))))))))))))))))))))))))))))))))))) (by show ii + 1 ≤ n; omega) (by show n - (ii + 1) < n - ii; omega)
            · (rw [hS2]; simp; done)
            · exact wrap_nat64 _ (by simp; omega) (by simp; omega)
            · (rw [hM2]; exact fun _ => rfl)
            · (rw [hS2]; simp; done)
            · (rw [hS2]; exact .inr (app_rows rfl _ (by simp)))
            · (apply Nat.ble_eq_true_of_le; omega)
            · (simp; done)
            · with_reducible assumption
            · (simp; omega)
            · (simp; omega)
            · (simp; omega)
            · (simp; omega)
            · (simp; omega)
            · (simp; omega)
        · by_cases hS0 : (swS (fun i => entOf (f (0 + i))) (swP m h) ii) = []
          · have keyswb10 := swb10_1 n l m lm r f h (swG (fun i => entOf (f (0 + i))) (swP m h) ii) (swS (fun i => entOf (f (0 + i))) (swP m h) ii) (swG (fun i => entOf (f (0 + i))) (swP m h) (ii + 1)) (swS (fun i => entOf (f (0 + i))) (swP m h) (ii + 1)) (swM M (fun i => entOf (f (0 + i))) (swP m h) ii) (swM M (fun i => entOf (f (0 + i))) (swP m h) (ii + 1)) M ii
            rw [← swQ10 n l m lm r f h ii hG0 hS0, ← swQ11 n l m lm r f h (ii + 1) (by rw [hG2]; exact hG0) (by rw [hS2]; simp)] at keyswb10
            refine round_norm (s0 := swU n l m lm r f h M) (T := fun i => swQ n l m lm r f h (swG (fun i => entOf (f (0 + i))) (swP m h) i) (swS (fun i => entOf (f (0 + i))) (swP m h) i) (swM M (fun i => entOf (f (0 + i))) (swP m h) i) i) (i := ii) (ii + 1) (keyswb10) (ob_cons rfl (ob_cons rfl (ob_cons rfl (ob_cons rfl (ob_cons rfl (ob_cons rfl (ob_cons ?_ (ob_cons rfl (ob_cons rfl (ob_cons ?_ (ob_cons rfl (ob_cons rfl (ob_cons rfl (ob_cons rfl (ob_cons rfl (ob_cons ?_ (ob_cons rfl (ob_cons rfl (ob_cons rfl (ob_cons rfl (ob_cons (Nat.le_refl _) (ob_cons (.inl ⟨rfl, rfl⟩) (ob_cons ?_ (ob_cons rfl (ob_cons (Nat.le_refl _) (ob_cons (.inl ⟨rfl, rfl⟩) (ob_cons rfl (ob_cons ?_ (ob_cons ?_ (ob_cons ?_ (ob_cons ?_ (ob_cons ?_ (ob_cons ?_ (ob_cons ?_ (ob_cons ?_ (ob_cons ?_ (ob_cons ?_ (ob_cons ?_ ob_nil)))))))))))))))))))))))))))))))))))))) (by show ii + 1 ≤ n; omega) (by show n - (ii + 1) < n - ii; omega)
            · (rw [hG2]; done)
            · (rw [hS2, hS0]; rfl)
            · exact wrap_nat64 _ (by simp; omega) (by simp; omega)
            · (rw [hM2]; exact fun _ => rfl)
            · (rw [hG2]; simp; done)
            · (rw [hG2]; exact .inl ⟨rfl, rfl⟩)
            · (rw [hS2, hS0]; rfl)
            · (rw [hS2]; exact one_rows (z := listRow 6 _) hS0 rfl)
            · with_reducible assumption
            · (simp; omega)
            · (simp; omega)
            · (simp; omega)
            · (simp; omega)
            · (simp; omega)
            · (simp; omega)
          · have keyswb11 := swb11_1 n l m lm r f h (swG (fun i => entOf (f (0 + i))) (swP m h) ii) (swS (fun i => entOf (f (0 + i))) (swP m h) ii) (swG (fun i => entOf (f (0 + i))) (swP m h) (ii + 1)) (swS (fun i => entOf (f (0 + i))) (swP m h) (ii + 1)) (swM M (fun i => entOf (f (0 + i))) (swP m h) ii) (swM M (fun i => entOf (f (0 + i))) (swP m h) (ii + 1)) M ii
            rw [← swQ11 n l m lm r f h ii hG0 hS0, ← swQ11 n l m lm r f h (ii + 1) (by rw [hG2]; exact hG0) (by rw [hS2]; simp)] at keyswb11
            refine round_norm (s0 := swU n l m lm r f h M) (T := fun i => swQ n l m lm r f h (swG (fun i => entOf (f (0 + i))) (swP m h) i) (swS (fun i => entOf (f (0 + i))) (swP m h) i) (swM M (fun i => entOf (f (0 + i))) (swP m h) i) i) (i := ii) (ii + 1) (keyswb11) (ob_cons rfl (ob_cons rfl (ob_cons rfl (ob_cons rfl (ob_cons rfl (ob_cons rfl (ob_cons ?_ (ob_cons rfl (ob_cons rfl (ob_cons ?_ (ob_cons rfl (ob_cons rfl (ob_cons rfl (ob_cons rfl (ob_cons rfl (ob_cons ?_ (ob_cons rfl (ob_cons rfl (ob_cons rfl (ob_cons rfl (ob_cons (Nat.le_refl _) (ob_cons (.inl ⟨rfl, rfl⟩) (ob_cons ?_ (ob_cons rfl (ob_cons (Nat.le_refl _) (ob_cons (.inl ⟨rfl, rfl⟩) (ob_cons rfl (ob_cons ?_ (ob_cons ?_ (ob_cons rfl (ob_cons ?_ (ob_cons ?_ (ob_cons ?_ (ob_cons ?_ (ob_cons ?_ (ob_cons ?_ (ob_cons ?_ (ob_cons ?_ (ob_cons ?_ (ob_cons ?_ (ob_cons ?_ ob_nil))))))))))))))))))))))))))))))))))))))))) (by show ii + 1 ≤ n; omega) (by show n - (ii + 1) < n - ii; omega)
            · (rw [hG2]; done)
            · (rw [hS2]; simp; done)
            · exact wrap_nat64 _ (by simp; omega) (by simp; omega)
            · (rw [hM2]; exact fun _ => rfl)
            · (rw [hG2]; simp; done)
            · (rw [hG2]; exact .inl ⟨rfl, rfl⟩)
            · (rw [hS2]; simp; done)
            · (rw [hS2]; exact .inr (app_rows rfl _ (by simp)))
            · (apply Nat.ble_eq_true_of_le; omega)
            · (simp; done)
            · with_reducible assumption
            · (simp; omega)
            · (simp; omega)
            · (simp; omega)
            · (simp; omega)
            · (simp; omega)
            · (simp; omega)
      · skip
        by_cases hG0 : (swG (fun i => entOf (f (0 + i))) (swP m h) ii) = []
        · by_cases hS0 : (swS (fun i => entOf (f (0 + i))) (swP m h) ii) = []
          · have keyswc00 := swc00_1 n l m lm r f h (swG (fun i => entOf (f (0 + i))) (swP m h) ii) (swS (fun i => entOf (f (0 + i))) (swP m h) ii) (swG (fun i => entOf (f (0 + i))) (swP m h) (ii + 1)) (swS (fun i => entOf (f (0 + i))) (swP m h) (ii + 1)) (swM M (fun i => entOf (f (0 + i))) (swP m h) ii) (swM M (fun i => entOf (f (0 + i))) (swP m h) (ii + 1)) M ii
            rw [← swQ00 n l m lm r f h ii hG0 hS0, ← swQ01 n l m lm r f h (ii + 1) (by rw [hG2]; exact hG0) (by rw [hS2]; simp)] at keyswc00
            refine round_norm (s0 := swU n l m lm r f h M) (T := fun i => swQ n l m lm r f h (swG (fun i => entOf (f (0 + i))) (swP m h) i) (swS (fun i => entOf (f (0 + i))) (swP m h) i) (swM M (fun i => entOf (f (0 + i))) (swP m h) i) i) (i := ii) (ii + 1) (keyswc00) (ob_cons rfl (ob_cons rfl (ob_cons rfl (ob_cons rfl (ob_cons rfl (ob_cons rfl (ob_cons ?_ (ob_cons rfl (ob_cons rfl (ob_cons rfl (ob_cons rfl (ob_cons rfl (ob_cons ?_ (ob_cons rfl (ob_cons rfl (ob_cons rfl (ob_cons rfl (ob_cons (Nat.le_refl _) (ob_cons (.inl ⟨rfl, rfl⟩) (ob_cons ?_ (ob_cons rfl (ob_cons (Nat.le_refl _) (ob_cons (.inl ⟨rfl, rfl⟩) (ob_cons ?_ (ob_cons ?_ (ob_cons ?_ (ob_cons ?_ (ob_cons ?_ (ob_cons ?_ ob_nil))))))))))))))))))))))))))))) (by show ii + 1 ≤ n; omega) (by show n - (ii + 1) < n - ii; omega)
            · (rw [hS2, hS0]; rfl)
            · exact wrap_nat64 _ (by simp; omega) (by simp; omega)
            · (rw [hM2]; exact fun _ => rfl)
            · (rw [hS2, hS0]; rfl)
            · (rw [hS2]; exact one_rows (z := listRow 6 _) hS0 rfl)
            · (simp; omega)
            · (simp; omega)
            · (simp; omega)
            · (simp; omega)
          · have keyswc01 := swc01_1 n l m lm r f h (swG (fun i => entOf (f (0 + i))) (swP m h) ii) (swS (fun i => entOf (f (0 + i))) (swP m h) ii) (swG (fun i => entOf (f (0 + i))) (swP m h) (ii + 1)) (swS (fun i => entOf (f (0 + i))) (swP m h) (ii + 1)) (swM M (fun i => entOf (f (0 + i))) (swP m h) ii) (swM M (fun i => entOf (f (0 + i))) (swP m h) (ii + 1)) M ii
            rw [← swQ01 n l m lm r f h ii hG0 hS0, ← swQ01 n l m lm r f h (ii + 1) (by rw [hG2]; exact hG0) (by rw [hS2]; simp)] at keyswc01
            refine round_norm (s0 := swU n l m lm r f h M) (T := fun i => swQ n l m lm r f h (swG (fun i => entOf (f (0 + i))) (swP m h) i) (swS (fun i => entOf (f (0 + i))) (swP m h) i) (swM M (fun i => entOf (f (0 + i))) (swP m h) i) i) (i := ii) (ii + 1) (keyswc01) (ob_cons rfl (ob_cons rfl (ob_cons rfl (ob_cons rfl (ob_cons rfl (ob_cons rfl (ob_cons ?_ (ob_cons rfl (ob_cons rfl (ob_cons rfl (ob_cons rfl (ob_cons rfl (ob_cons ?_ (ob_cons rfl (ob_cons rfl (ob_cons rfl (ob_cons rfl (ob_cons (Nat.le_refl _) (ob_cons (.inl ⟨rfl, rfl⟩) (ob_cons ?_ (ob_cons rfl (ob_cons (Nat.le_refl _) (ob_cons (.inl ⟨rfl, rfl⟩) (ob_cons rfl (ob_cons ?_ (ob_cons ?_ (ob_cons ?_ (ob_cons ?_ (ob_cons ?_ (ob_cons ?_ (ob_cons ?_ (ob_cons ?_ ob_nil)))))))))))))))))))))))))))))))) (by show ii + 1 ≤ n; omega) (by show n - (ii + 1) < n - ii; omega)
            · (rw [hS2]; simp; done)
            · exact wrap_nat64 _ (by simp; omega) (by simp; omega)
            · (rw [hM2]; exact fun _ => rfl)
            · (rw [hS2]; simp; done)
            · (rw [hS2]; exact .inr (app_rows rfl _ (by simp)))
            · (apply Nat.ble_eq_true_of_le; omega)
            · (simp; done)
            · (simp; omega)
            · (simp; omega)
            · (simp; omega)
            · (simp; omega)
        · by_cases hS0 : (swS (fun i => entOf (f (0 + i))) (swP m h) ii) = []
          · have keyswc10 := swc10_1 n l m lm r f h (swG (fun i => entOf (f (0 + i))) (swP m h) ii) (swS (fun i => entOf (f (0 + i))) (swP m h) ii) (swG (fun i => entOf (f (0 + i))) (swP m h) (ii + 1)) (swS (fun i => entOf (f (0 + i))) (swP m h) (ii + 1)) (swM M (fun i => entOf (f (0 + i))) (swP m h) ii) (swM M (fun i => entOf (f (0 + i))) (swP m h) (ii + 1)) M ii
            rw [← swQ10 n l m lm r f h ii hG0 hS0, ← swQ11 n l m lm r f h (ii + 1) (by rw [hG2]; exact hG0) (by rw [hS2]; simp)] at keyswc10
            refine round_norm (s0 := swU n l m lm r f h M) (T := fun i => swQ n l m lm r f h (swG (fun i => entOf (f (0 + i))) (swP m h) i) (swS (fun i => entOf (f (0 + i))) (swP m h) i) (swM M (fun i => entOf (f (0 + i))) (swP m h) i) i) (i := ii) (ii + 1) (keyswc10) (ob_cons rfl (ob_cons rfl (ob_cons rfl (ob_cons rfl (ob_cons rfl (ob_cons rfl (ob_cons ?_ (ob_cons rfl (ob_cons rfl (ob_cons ?_ (ob_cons rfl (ob_cons rfl (ob_cons rfl (ob_cons rfl (ob_cons rfl (ob_cons ?_ (ob_cons rfl (ob_cons rfl (ob_cons rfl (ob_cons rfl (ob_cons (Nat.le_refl _) (ob_cons (.inl ⟨rfl, rfl⟩) (ob_cons ?_ (ob_cons rfl (ob_cons (Nat.le_refl _) (ob_cons (.inl ⟨rfl, rfl⟩) (ob_cons rfl (ob_cons ?_ (ob_cons ?_ (ob_cons ?_ (ob_cons ?_ (ob_cons ?_ (ob_cons ?_ (ob_cons ?_ (ob_cons ?_ ob_nil))))))))))))))))))))))))))))))))))) (by show ii + 1 ≤ n; omega) (by show n - (ii + 1) < n - ii; omega)
            · (rw [hG2]; done)
            · (rw [hS2, hS0]; rfl)
            · exact wrap_nat64 _ (by simp; omega) (by simp; omega)
            · (rw [hM2]; exact fun _ => rfl)
            · (rw [hG2]; simp; done)
            · (rw [hG2]; exact .inl ⟨rfl, rfl⟩)
            · (rw [hS2, hS0]; rfl)
            · (rw [hS2]; exact one_rows (z := listRow 6 _) hS0 rfl)
            · (simp; omega)
            · (simp; omega)
            · (simp; omega)
            · (simp; omega)
          · have keyswc11 := swc11_1 n l m lm r f h (swG (fun i => entOf (f (0 + i))) (swP m h) ii) (swS (fun i => entOf (f (0 + i))) (swP m h) ii) (swG (fun i => entOf (f (0 + i))) (swP m h) (ii + 1)) (swS (fun i => entOf (f (0 + i))) (swP m h) (ii + 1)) (swM M (fun i => entOf (f (0 + i))) (swP m h) ii) (swM M (fun i => entOf (f (0 + i))) (swP m h) (ii + 1)) M ii
            rw [← swQ11 n l m lm r f h ii hG0 hS0, ← swQ11 n l m lm r f h (ii + 1) (by rw [hG2]; exact hG0) (by rw [hS2]; simp)] at keyswc11
            refine round_norm (s0 := swU n l m lm r f h M) (T := fun i => swQ n l m lm r f h (swG (fun i => entOf (f (0 + i))) (swP m h) i) (swS (fun i => entOf (f (0 + i))) (swP m h) i) (swM M (fun i => entOf (f (0 + i))) (swP m h) i) i) (i := ii) (ii + 1) (keyswc11) (ob_cons rfl (ob_cons rfl (ob_cons rfl (ob_cons rfl (ob_cons rfl (ob_cons rfl (ob_cons ?_ (ob_cons rfl (ob_cons rfl (ob_cons ?_ (ob_cons rfl (ob_cons rfl (ob_cons rfl (ob_cons rfl (ob_cons rfl (ob_cons ?_ (ob_cons rfl (ob_cons rfl (ob_cons rfl (ob_cons rfl (ob_cons (Nat.le_refl _) (ob_cons (.inl ⟨rfl, rfl⟩) (ob_cons ?_ (ob_cons rfl (ob_cons (Nat.le_refl _) (ob_cons (.inl ⟨rfl, rfl⟩) (ob_cons rfl (ob_cons ?_ (ob_cons ?_ (ob_cons rfl (ob_cons ?_ (ob_cons ?_ (ob_cons ?_ (ob_cons ?_ (ob_cons ?_ (ob_cons ?_ (ob_cons ?_ (ob_cons ?_ ob_nil)))))))))))))))))))))))))))))))))))))) (by show ii + 1 ≤ n; omega) (by show n - (ii + 1) < n - ii; omega)
            · (rw [hG2]; done)
            · (rw [hS2]; simp; done)
            · exact wrap_nat64 _ (by simp; omega) (by simp; omega)
            · (rw [hM2]; exact fun _ => rfl)
            · (rw [hG2]; simp; done)
            · (rw [hG2]; exact .inl ⟨rfl, rfl⟩)
            · (rw [hS2]; simp; done)
            · (rw [hS2]; exact .inr (app_rows rfl _ (by simp)))
            · (apply Nat.ble_eq_true_of_le; omega)
            · (simp; done)
            · (simp; omega)
            · (simp; omega)
            · (simp; omega)
            · (simp; omega)
  · have hii : ii = n := by omega
    subst hii
    by_cases hG0 : (swG (fun i => entOf (f (0 + i))) (swP m h) ii) = []
    · by_cases hS0 : (swS (fun i => entOf (f (0 + i))) (swP m h) ii) = []
      · have keyswx00 := swx00_1 ii l m lm r f h (swG (fun i => entOf (f (0 + i))) (swP m h) ii) (swS (fun i => entOf (f (0 + i))) (swP m h) ii) [] [] (swM M (fun i => entOf (f (0 + i))) (swP m h) ii) (swM M (fun i => entOf (f (0 + i))) (swP m h) ii) M ii
        rw [← swQ00 ii l m lm r f h ii hG0 hS0, ← swW00 ii l m lm r f h hG0 hS0] at keyswx00
        refine round_exit (s0 := swU ii l m lm r f h M) (T := fun i => swQ ii l m lm r f h (swG (fun i => entOf (f (0 + i))) (swP m h) i) (swS (fun i => entOf (f (0 + i))) (swP m h) i) (swM M (fun i => entOf (f (0 + i))) (swP m h) i) i) (i := ii) (keyswx00) (by simp) (ob_cons rfl (ob_cons rfl (ob_cons rfl (ob_cons rfl (ob_cons rfl (ob_cons rfl (ob_cons (Nat.le_refl _) (ob_cons (.inl ⟨rfl, rfl⟩) (ob_cons (fun _ => rfl) (ob_cons rfl (ob_cons (Nat.le_refl _) (ob_cons (.inl ⟨rfl, rfl⟩) (ob_cons ?_ ob_nil)))))))))))))
        · (simp; done)
      · have keyswx01 := swx01_1 ii l m lm r f h (swG (fun i => entOf (f (0 + i))) (swP m h) ii) (swS (fun i => entOf (f (0 + i))) (swP m h) ii) [] [] (swM M (fun i => entOf (f (0 + i))) (swP m h) ii) (swM M (fun i => entOf (f (0 + i))) (swP m h) ii) M ii
        rw [← swQ01 ii l m lm r f h ii hG0 hS0, ← swW01 ii l m lm r f h hG0 hS0] at keyswx01
        refine round_exit (s0 := swU ii l m lm r f h M) (T := fun i => swQ ii l m lm r f h (swG (fun i => entOf (f (0 + i))) (swP m h) i) (swS (fun i => entOf (f (0 + i))) (swP m h) i) (swM M (fun i => entOf (f (0 + i))) (swP m h) i) i) (i := ii) (keyswx01) (by simp) (ob_cons rfl (ob_cons rfl (ob_cons rfl (ob_cons rfl (ob_cons rfl (ob_cons rfl (ob_cons rfl (ob_cons rfl (ob_cons rfl (ob_cons (Nat.le_refl _) (ob_cons (.inl ⟨rfl, rfl⟩) (ob_cons (fun _ => rfl) (ob_cons rfl (ob_cons (Nat.le_refl _) (ob_cons (.inl ⟨rfl, rfl⟩) (ob_cons rfl (ob_cons (Nat.le_refl _) (ob_cons (.inl ⟨rfl, rfl⟩) (ob_cons ?_ ob_nil)))))))))))))))))))
        · (simp; done)
    · by_cases hS0 : (swS (fun i => entOf (f (0 + i))) (swP m h) ii) = []
      · have keyswx10 := swx10_1 ii l m lm r f h (swG (fun i => entOf (f (0 + i))) (swP m h) ii) (swS (fun i => entOf (f (0 + i))) (swP m h) ii) [] [] (swM M (fun i => entOf (f (0 + i))) (swP m h) ii) (swM M (fun i => entOf (f (0 + i))) (swP m h) ii) M ii
        rw [← swQ10 ii l m lm r f h ii hG0 hS0, ← swW10 ii l m lm r f h hG0 hS0] at keyswx10
        refine round_exit (s0 := swU ii l m lm r f h M) (T := fun i => swQ ii l m lm r f h (swG (fun i => entOf (f (0 + i))) (swP m h) i) (swS (fun i => entOf (f (0 + i))) (swP m h) i) (swM M (fun i => entOf (f (0 + i))) (swP m h) i) i) (i := ii) (keyswx10) (by simp) (ob_cons rfl (ob_cons rfl (ob_cons rfl (ob_cons rfl (ob_cons rfl (ob_cons rfl (ob_cons rfl (ob_cons rfl (ob_cons rfl (ob_cons (Nat.le_refl _) (ob_cons (.inl ⟨rfl, rfl⟩) (ob_cons (fun _ => rfl) (ob_cons rfl (ob_cons (Nat.le_refl _) (ob_cons (.inl ⟨rfl, rfl⟩) (ob_cons rfl (ob_cons (Nat.le_refl _) (ob_cons (.inl ⟨rfl, rfl⟩) (ob_cons ?_ ob_nil)))))))))))))))))))
        · (simp; done)
      · have keyswx11 := swx11_1 ii l m lm r f h (swG (fun i => entOf (f (0 + i))) (swP m h) ii) (swS (fun i => entOf (f (0 + i))) (swP m h) ii) [] [] (swM M (fun i => entOf (f (0 + i))) (swP m h) ii) (swM M (fun i => entOf (f (0 + i))) (swP m h) ii) M ii
        rw [← swQ11 ii l m lm r f h ii hG0 hS0, ← swW11 ii l m lm r f h hG0 hS0] at keyswx11
        refine round_exit (s0 := swU ii l m lm r f h M) (T := fun i => swQ ii l m lm r f h (swG (fun i => entOf (f (0 + i))) (swP m h) i) (swS (fun i => entOf (f (0 + i))) (swP m h) i) (swM M (fun i => entOf (f (0 + i))) (swP m h) i) i) (i := ii) (keyswx11) (by simp) (ob_cons rfl (ob_cons rfl (ob_cons rfl (ob_cons rfl (ob_cons rfl (ob_cons rfl (ob_cons rfl (ob_cons rfl (ob_cons rfl (ob_cons rfl (ob_cons rfl (ob_cons rfl (ob_cons (Nat.le_refl _) (ob_cons (.inl ⟨rfl, rfl⟩) (ob_cons (fun _ => rfl) (ob_cons rfl (ob_cons (Nat.le_refl _) (ob_cons (.inl ⟨rfl, rfl⟩) (ob_cons rfl (ob_cons (Nat.le_refl _) (ob_cons (.inl ⟨rfl, rfl⟩) (ob_cons rfl (ob_cons (Nat.le_refl _) (ob_cons (.inl ⟨rfl, rfl⟩) (ob_cons ?_ ob_nil)))))))))))))))))))))))))
        · (simp; done)
theorem sn_lp (n l m lm : Nat) (r : Bool) (f h : Nat → Nat → AV) (M : List Int → Option Int) (hl : n ≤ l) (hlim : n ≤ 1000000) : snLP n l m lm r f h M (swS (fun i => entOf (f (0 + i))) (fun _ => false) n) := by
  refine loop_rule EA_ok (I := Nat) (fun i => snQ n l m lm r f h ([] : List Ent) (swS (fun i => entOf (f (0 + i))) (fun _ => false) i) M i) (fun i => n - i) (fun i => i ≤ n) ?_ (fun ii hi => ?_)
  ·
    refine ⟨0, [], _, Nat.zero_le _, sni_1 .., (ob_cons rfl (ob_cons rfl (ob_cons rfl (ob_cons rfl (ob_cons rfl (ob_cons rfl (ob_cons rfl (ob_cons rfl (ob_cons rfl (ob_cons rfl (ob_cons rfl (ob_cons (Nat.le_refl _) (ob_cons (.inl ⟨rfl, rfl⟩) (ob_cons (fun _ => rfl) ob_nil))))))))))))))⟩
  have hSl : (swS (fun i => entOf (f (0 + i))) (fun _ => false) ii).length ≤ ii := swS_len _ _ ii
  by_cases hin : ii < n
  · have hS2 := swS_f (E := fun i => entOf (f (0 + i))) (p := fun _ => false) (i := ii) rfl
    have hG0 : ([] : List Ent) = [] := rfl
    by_cases hS0 : (swS (fun i => entOf (f (0 + i))) (fun _ => false) ii) = []
    · have keysnc00 := snc00_1 n l m lm r f h ([] : List Ent) (swS (fun i => entOf (f (0 + i))) (fun _ => false) ii) ([] : List Ent) (swS (fun i => entOf (f (0 + i))) (fun _ => false) (ii + 1)) M M M ii
      rw [← snQ00 n l m lm r f h ii hG0 hS0, ← snQ01 n l m lm r f h (ii + 1) (rfl) (by rw [hS2]; simp)] at keysnc00
      refine round_norm (s0 := snU n l m lm r f h M) (T := fun i => snQ n l m lm r f h ([] : List Ent) (swS (fun i => entOf (f (0 + i))) (fun _ => false) i) M i) (i := ii) (ii + 1) (keysnc00) (ob_cons rfl (ob_cons rfl (ob_cons rfl (ob_cons ?_ (ob_cons rfl (ob_cons rfl (ob_cons rfl (ob_cons rfl (ob_cons rfl (ob_cons ?_ (ob_cons rfl (ob_cons rfl (ob_cons rfl (ob_cons rfl (ob_cons (Nat.le_refl _) (ob_cons (.inl ⟨rfl, rfl⟩) (ob_cons ?_ (ob_cons ?_ (ob_cons ?_ (ob_cons ?_ (ob_cons ?_ (ob_cons ?_ (ob_cons ?_ ob_nil))))))))))))))))))))))) (by show ii + 1 ≤ n; omega) (by show n - (ii + 1) < n - ii; omega)
      · (rw [hS2, hS0]; rfl)
      · exact wrap_nat64 _ (by simp; omega) (by simp; omega)
      · (simp; done)
      · (rw [hS2, hS0]; rfl)
      · (rw [hS2]; exact one_rows (z := listRow 6 _) hS0 rfl)
      · (simp; done)
      · (simp; omega)
      · (simp; omega)
      · (simp; omega)
    · have keysnc01 := snc01_1 n l m lm r f h ([] : List Ent) (swS (fun i => entOf (f (0 + i))) (fun _ => false) ii) ([] : List Ent) (swS (fun i => entOf (f (0 + i))) (fun _ => false) (ii + 1)) M M M ii
      rw [← snQ01 n l m lm r f h ii hG0 hS0, ← snQ01 n l m lm r f h (ii + 1) (rfl) (by rw [hS2]; simp)] at keysnc01
      refine round_norm (s0 := snU n l m lm r f h M) (T := fun i => snQ n l m lm r f h ([] : List Ent) (swS (fun i => entOf (f (0 + i))) (fun _ => false) i) M i) (i := ii) (ii + 1) (keysnc01) (ob_cons rfl (ob_cons rfl (ob_cons rfl (ob_cons ?_ (ob_cons rfl (ob_cons rfl (ob_cons rfl (ob_cons rfl (ob_cons rfl (ob_cons ?_ (ob_cons rfl (ob_cons rfl (ob_cons rfl (ob_cons rfl (ob_cons (Nat.le_refl _) (ob_cons (.inl ⟨rfl, rfl⟩) (ob_cons ?_ (ob_cons rfl (ob_cons ?_ (ob_cons ?_ (ob_cons ?_ (ob_cons ?_ (ob_cons ?_ (ob_cons ?_ (ob_cons ?_ (ob_cons ?_ ob_nil)))))))))))))))))))))))))) (by show ii + 1 ≤ n; omega) (by show n - (ii + 1) < n - ii; omega)
      · (rw [hS2]; simp; done)
      · exact wrap_nat64 _ (by simp; omega) (by simp; omega)
      · (simp; done)
      · (rw [hS2]; simp; done)
      · (rw [hS2]; exact .inr (app_rows rfl _ (by simp)))
      · (apply Nat.ble_eq_true_of_le; omega)
      · (simp; done)
      · (simp; done)
      · (simp; omega)
      · (simp; omega)
      · (simp; omega)
  · have hii : ii = n := by omega
    subst hii
    have hG0 : ([] : List Ent) = [] := rfl
    by_cases hS0 : (swS (fun i => entOf (f (0 + i))) (fun _ => false) ii) = []
    · have keysnx00 := snx00_1 ii l m lm r f h ([] : List Ent) (swS (fun i => entOf (f (0 + i))) (fun _ => false) ii) [] [] M M M ii
      rw [← snQ00 ii l m lm r f h ii hG0 hS0, ← snW00 ii l m lm r f h hG0 hS0] at keysnx00
      refine round_exit (s0 := snU ii l m lm r f h M) (T := fun i => snQ ii l m lm r f h ([] : List Ent) (swS (fun i => entOf (f (0 + i))) (fun _ => false) i) M i) (i := ii) (keysnx00) (by simp) (ob_cons rfl (ob_cons rfl (ob_cons rfl (ob_cons rfl (ob_cons rfl (ob_cons rfl (ob_cons (Nat.le_refl _) (ob_cons (.inl ⟨rfl, rfl⟩) (ob_cons (fun _ => rfl) (ob_cons ?_ ob_nil))))))))))
      · (simp; done)
    · have keysnx01 := snx01_1 ii l m lm r f h ([] : List Ent) (swS (fun i => entOf (f (0 + i))) (fun _ => false) ii) [] [] M M M ii
      rw [← snQ01 ii l m lm r f h ii hG0 hS0, ← snW01 ii l m lm r f h hG0 hS0] at keysnx01
      refine round_exit (s0 := snU ii l m lm r f h M) (T := fun i => snQ ii l m lm r f h ([] : List Ent) (swS (fun i => entOf (f (0 + i))) (fun _ => false) i) M i) (i := ii) (keysnx01) (by simp) (ob_cons rfl (ob_cons rfl (ob_cons rfl (ob_cons rfl (ob_cons rfl (ob_cons rfl (ob_cons rfl (ob_cons rfl (ob_cons rfl (ob_cons (Nat.le_refl _) (ob_cons (.inl ⟨rfl, rfl⟩) (ob_cons (fun _ => rfl) (ob_cons rfl (ob_cons (Nat.le_refl _) (ob_cons (.inl ⟨rfl, rfl⟩) (ob_cons ?_ ob_nil))))))))))))))))
      · (simp; done)
end Go.Proofs.Ytmlfmmnnbdlabaa
