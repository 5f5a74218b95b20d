/-
  BarriersPlay: the loop.
-/
import Derived.Test.YtmlfmmnnbdlabaaDoorQBmDef
set_option linter.unusedSimpArgs false
set_option linter.unusedVariables false
namespace Go.Proofs.YtmlfmmnnbdlabaaDoor
open Go.Ev
theorem pbth_1 (n : Nat) (g : Nat → Nat → AV) (m : Nat) (f : Nat → Nat → AV) (nb lk al : Int) (S0 S : MS) (R0 R : RS) (y2 : PB) : roundB EBp 4000 pbL ((pbU n g m f nb lk al S0 R0).hp) [(11, Src.nm 1022934564967544334379121780258624735067700639388457746713528552530041811376460798401021903851845049109652088789862522190380392670589185329165164871686)] (pbU n g m f nb lk al S R) [Hint.b true, Hint.node [], Hint.b true, Hint.node [(3, [Hint.node [], Hint.b false])]] (pbW n g m f nb lk al 0 y2) =
 some (Ex.norm, [(0 : Nat) = 0,
 m = m,
 (none : Option Nat) = none,
 (0 : Nat) = 0,
 (0 : Nat) = 0,
 (0 : Nat) = 0,
 (0 : Nat) = 0,
 (0 : Nat) = 0,
 (0 : Nat) = 0,
 (1 : Int) = 1,
 2 = y2.d.at_,
 nb = nb,
 lk = y2.d.lk,
 4 = y2.d.en,
 -1 = y2.d.wt,
 0 = y2.d.th,
 16 = al,
 nb = nb,
 (if 1 > lk then 1 else lk) = y2.x.lk,
 0 = y2.x.th,
 IntKind.i64.wrap (IntKind.i64.wrap (if 4 < mget (memPut S.M (avInt (f 0 0)) (avInt (f 0 1)) (avInt (f 0 2)) (avInt (f 0 3))) (key 5 0 0) then 4 else mget (memPut S.M (avInt (f 0 0)) (avInt (f 0 1)) (avInt (f 0 2)) (avInt (f 0 3))) (key 5 0 0)) * 4) = al,
 0 = y2.x.at_,
 -1 = y2.x.wt,
 0 = y2.x.en,
 (0 : Nat) = 0,
 (0 : Nat) = 0,
 (0 : Nat) = 0,
 (0 : Nat) = 0,
 true = true,
 (1 : Nat) ≤ (1 : Nat),
 tabF tab = tabF tab ∧ plainSh (List.map kindOfV tab) = true ∨ ∀ (i : Nat), i < 1 → rowOb (List.map kindOfV tab) 0 (tabF tab i) (tabF tab i),
 true = true,
 n ≤ n,
 wdF (bgW g) = wdF (bgW g) ∧ plainSh wSh = true ∨ ∀ (i : Nat), i < n → rowOb wSh 0 (wdF (bgW g) i) (wdF (bgW g) i),
 true = true,
 m ≤ m,
 f = f ∧ plainSh wSh = true ∨ ∀ (i : Nat), i < m → rowOb wSh 0 (f i) (f i),
 IntKind.i64.wrap (IntKind.i64.wrap (S.st + 1) + 1) = y2.S.st,
 1 = y2.S.L.c,
 5 = y2.S.L.k,
 0 = y2.S.L.a,
 0 = y2.S.L.f,
 mget (memPut S.M (avInt (f 0 0)) (avInt (f 0 1)) (avInt (f 0 2)) (avInt (f 0 3))) (key 5 0 0) = y2.S.L.w,
 mget (memPut S.M (avInt (f 0 0)) (avInt (f 0 1)) (avInt (f 0 2)) (avInt (f 0 3))) (key 5 0 0) = y2.S.L.i,
 false = y2.S.L.d,
 ∀ (k : List Int), memPut S.M (avInt (f 0 0)) (avInt (f 0 1)) (avInt (f 0 2)) (avInt (f 0 3)) k = y2.S.M k,
 (0 : Nat) = 0,
 (dPut (dOf R.D.n (wdF R.D.W)) (avInt (f 0 0)) (avInt (f 0 1)) (avInt (f 0 2)) (avInt (f 0 3))).n = y2.R.D.n,
 (none : Option Nat) = none,
 IntKind.i64.wrap (IntKind.i64.wrap (R.st + 1) + 1) = y2.R.st,
 1 = y2.R.L.c,
 5 = y2.R.L.k,
 0 = y2.R.L.a,
 0 = y2.R.L.f,
 dWord (dOf (dPut (dOf R.D.n (wdF R.D.W)) (avInt (f 0 0)) (avInt (f 0 1)) (avInt (f 0 2)) (avInt (f 0 3))).n (wdF (dPut (dOf R.D.n (wdF R.D.W)) (avInt (f 0 0)) (avInt (f 0 1)) (avInt (f 0 2)) (avInt (f 0 3))).W)) 5 0 0 = y2.R.L.w,
 dWord (dOf (dPut (dOf R.D.n (wdF R.D.W)) (avInt (f 0 0)) (avInt (f 0 1)) (avInt (f 0 2)) (avInt (f 0 3))).n (wdF (dPut (dOf R.D.n (wdF R.D.W)) (avInt (f 0 0)) (avInt (f 0 1)) (avInt (f 0 2)) (avInt (f 0 3))).W)) 5 0 0 = y2.R.L.i,
 false = y2.R.L.d,
 false = false,
 y2.R.D.n ≤ (dPut (dOf R.D.n (wdF R.D.W)) (avInt (f 0 0)) (avInt (f 0 1)) (avInt (f 0 2)) (avInt (f 0 3))).n,
 wdF y2.R.D.W = wdF (dPut (dOf R.D.n (wdF R.D.W)) (avInt (f 0 0)) (avInt (f 0 1)) (avInt (f 0 2)) (avInt (f 0 3))).W ∧ plainSh wSh = true ∨ ∀ (i : Nat), i < y2.R.D.n → rowOb wSh 0 (wdF (dPut (dOf R.D.n (wdF R.D.W)) (avInt (f 0 0)) (avInt (f 0 1)) (avInt (f 0 2)) (avInt (f 0 3))).W i) (wdF y2.R.D.W i),
 Both (MS.mk (memPut S.M (avInt (f 0 0)) (avInt (f 0 1)) (avInt (f 0 2)) (avInt (f 0 3))) (IntKind.i64.wrap (IntKind.i64.wrap (S.st + 1) + 1)) (LS.mk 1 5 0 0 (mget (memPut S.M (avInt (f 0 0)) (avInt (f 0 1)) (avInt (f 0 2)) (avInt (f 0 3))) (key 5 0 0)) (mget (memPut S.M (avInt (f 0 0)) (avInt (f 0 1)) (avInt (f 0 2)) (avInt (f 0 3))) (key 5 0 0)) false)) (mkR (dPut (dOf R.D.n (wdF R.D.W)) (avInt (f 0 0)) (avInt (f 0 1)) (avInt (f 0 2)) (avInt (f 0 3))).n (wdF (dPut (dOf R.D.n (wdF R.D.W)) (avInt (f 0 0)) (avInt (f 0 1)) (avInt (f 0 2)) (avInt (f 0 3))).W) (IntKind.i64.wrap (IntKind.i64.wrap (R.st + 1) + 1)) (LS.mk 1 5 0 0 (dWord (dOf (dPut (dOf R.D.n (wdF R.D.W)) (avInt (f 0 0)) (avInt (f 0 1)) (avInt (f 0 2)) (avInt (f 0 3))).n (wdF (dPut (dOf R.D.n (wdF R.D.W)) (avInt (f 0 0)) (avInt (f 0 1)) (avInt (f 0 2)) (avInt (f 0 3))).W)) 5 0 0) (dWord (dOf (dPut (dOf R.D.n (wdF R.D.W)) (avInt (f 0 0)) (avInt (f 0 1)) (avInt (f 0 2)) (avInt (f 0 3))).n (wdF (dPut (dOf R.D.n (wdF R.D.W)) (avInt (f 0 0)) (avInt (f 0 1)) (avInt (f 0 2)) (avInt (f 0 3))).W)) 5 0 0) false)),
 decide (0 ≥ IntKind.i64.wrap (IntKind.i64.wrap (if 4 < mget (memPut S.M (avInt (f 0 0)) (avInt (f 0 1)) (avInt (f 0 2)) (avInt (f 0 3))) (key 5 0 0) then 4 else mget (memPut S.M (avInt (f 0 0)) (avInt (f 0 1)) (avInt (f 0 2)) (avInt (f 0 3))) (key 5 0 0)) * 4)) = false,
 decide (dWord (dOf (dPut (dOf R.D.n (wdF R.D.W)) (avInt (f 0 0)) (avInt (f 0 1)) (avInt (f 0 2)) (avInt (f 0 3))).n (wdF (dPut (dOf R.D.n (wdF R.D.W)) (avInt (f 0 0)) (avInt (f 0 1)) (avInt (f 0 2)) (avInt (f 0 3))).W)) 5 0 0 > 4) = true,
 (dPut (dOf R.D.n (wdF R.D.W)) (avInt (f 0 0)) (avInt (f 0 1)) (avInt (f 0 2)) (avInt (f 0 3))).n ≤ (dPut (dOf R.D.n (wdF R.D.W)) (avInt (f 0 0)) (avInt (f 0 1)) (avInt (f 0 2)) (avInt (f 0 3))).n,
 (dPut (dOf R.D.n (wdF R.D.W)) (avInt (f 0 0)) (avInt (f 0 1)) (avInt (f 0 2)) (avInt (f 0 3))).n ≤ 1000000,
 R.D.n ≤ R.D.n,
 R.D.n ≤ 100000,
 0 ≤ avInt (f 0 0),
 Nat.blt 0 m = true,
 (Nat.blt (0 : Nat) m && decide ((0 : Int) ≤ (0 : Int))) = true,
 decide (0 < Int.ofNat m) = true]) := by kernel_rfl
theorem pbtn_1 (n : Nat) (g : Nat → Nat → AV) (m : Nat) (f : Nat → Nat → AV) (nb lk al : Int) (S0 S : MS) (R0 R : RS) (y2 : PB) : roundB EBp 4000 pbL ((pbU n g m f nb lk al S0 R0).hp) [(11, Src.nm 1022934564967544334379121780258624735067700639388457746713528552530041811376460798401021903851845049109652088789862522190380392670589185329165164871686)] (pbU n g m f nb lk al S R) [Hint.b true, Hint.node [], Hint.b false, Hint.b false, Hint.node [(3, [Hint.node [], Hint.b false])]] (pbW n g m f nb lk al 0 y2) =
 some (Ex.norm, [(0 : Nat) = 0,
 m = m,
 (none : Option Nat) = none,
 (0 : Nat) = 0,
 (0 : Nat) = 0,
 (0 : Nat) = 0,
 (0 : Nat) = 0,
 (0 : Nat) = 0,
 (0 : Nat) = 0,
 (1 : Int) = 1,
 2 = y2.d.at_,
 nb = nb,
 lk = y2.d.lk,
 4 = y2.d.en,
 -1 = y2.d.wt,
 0 = y2.d.th,
 IntKind.i64.wrap (4 * IntKind.i64.wrap (dWord (dOf (dPut (dOf R.D.n (wdF R.D.W)) (avInt (f 0 0)) (avInt (f 0 1)) (avInt (f 0 2)) (avInt (f 0 3))).n (wdF (dPut (dOf R.D.n (wdF R.D.W)) (avInt (f 0 0)) (avInt (f 0 1)) (avInt (f 0 2)) (avInt (f 0 3))).W)) 5 0 0)) = al,
 nb = nb,
 (if 1 > lk then 1 else lk) = y2.x.lk,
 0 = y2.x.th,
 IntKind.i64.wrap (IntKind.i64.wrap (if 4 < mget (memPut S.M (avInt (f 0 0)) (avInt (f 0 1)) (avInt (f 0 2)) (avInt (f 0 3))) (key 5 0 0) then 4 else mget (memPut S.M (avInt (f 0 0)) (avInt (f 0 1)) (avInt (f 0 2)) (avInt (f 0 3))) (key 5 0 0)) * 4) = al,
 0 = y2.x.at_,
 -1 = y2.x.wt,
 0 = y2.x.en,
 (0 : Nat) = 0,
 (0 : Nat) = 0,
 (0 : Nat) = 0,
 (0 : Nat) = 0,
 true = true,
 (1 : Nat) ≤ (1 : Nat),
 tabF tab = tabF tab ∧ plainSh (List.map kindOfV tab) = true ∨ ∀ (i : Nat), i < 1 → rowOb (List.map kindOfV tab) 0 (tabF tab i) (tabF tab i),
 true = true,
 n ≤ n,
 wdF (bgW g) = wdF (bgW g) ∧ plainSh wSh = true ∨ ∀ (i : Nat), i < n → rowOb wSh 0 (wdF (bgW g) i) (wdF (bgW g) i),
 true = true,
 m ≤ m,
 f = f ∧ plainSh wSh = true ∨ ∀ (i : Nat), i < m → rowOb wSh 0 (f i) (f i),
 IntKind.i64.wrap (IntKind.i64.wrap (S.st + 1) + 1) = y2.S.st,
 1 = y2.S.L.c,
 5 = y2.S.L.k,
 0 = y2.S.L.a,
 0 = y2.S.L.f,
 mget (memPut S.M (avInt (f 0 0)) (avInt (f 0 1)) (avInt (f 0 2)) (avInt (f 0 3))) (key 5 0 0) = y2.S.L.w,
 mget (memPut S.M (avInt (f 0 0)) (avInt (f 0 1)) (avInt (f 0 2)) (avInt (f 0 3))) (key 5 0 0) = y2.S.L.i,
 false = y2.S.L.d,
 ∀ (k : List Int), memPut S.M (avInt (f 0 0)) (avInt (f 0 1)) (avInt (f 0 2)) (avInt (f 0 3)) k = y2.S.M k,
 (0 : Nat) = 0,
 (dPut (dOf R.D.n (wdF R.D.W)) (avInt (f 0 0)) (avInt (f 0 1)) (avInt (f 0 2)) (avInt (f 0 3))).n = y2.R.D.n,
 (none : Option Nat) = none,
 IntKind.i64.wrap (IntKind.i64.wrap (R.st + 1) + 1) = y2.R.st,
 1 = y2.R.L.c,
 5 = y2.R.L.k,
 0 = y2.R.L.a,
 0 = y2.R.L.f,
 dWord (dOf (dPut (dOf R.D.n (wdF R.D.W)) (avInt (f 0 0)) (avInt (f 0 1)) (avInt (f 0 2)) (avInt (f 0 3))).n (wdF (dPut (dOf R.D.n (wdF R.D.W)) (avInt (f 0 0)) (avInt (f 0 1)) (avInt (f 0 2)) (avInt (f 0 3))).W)) 5 0 0 = y2.R.L.w,
 dWord (dOf (dPut (dOf R.D.n (wdF R.D.W)) (avInt (f 0 0)) (avInt (f 0 1)) (avInt (f 0 2)) (avInt (f 0 3))).n (wdF (dPut (dOf R.D.n (wdF R.D.W)) (avInt (f 0 0)) (avInt (f 0 1)) (avInt (f 0 2)) (avInt (f 0 3))).W)) 5 0 0 = y2.R.L.i,
 false = y2.R.L.d,
 false = false,
 y2.R.D.n ≤ (dPut (dOf R.D.n (wdF R.D.W)) (avInt (f 0 0)) (avInt (f 0 1)) (avInt (f 0 2)) (avInt (f 0 3))).n,
 wdF y2.R.D.W = wdF (dPut (dOf R.D.n (wdF R.D.W)) (avInt (f 0 0)) (avInt (f 0 1)) (avInt (f 0 2)) (avInt (f 0 3))).W ∧ plainSh wSh = true ∨ ∀ (i : Nat), i < y2.R.D.n → rowOb wSh 0 (wdF (dPut (dOf R.D.n (wdF R.D.W)) (avInt (f 0 0)) (avInt (f 0 1)) (avInt (f 0 2)) (avInt (f 0 3))).W i) (wdF y2.R.D.W i),
 Both (MS.mk (memPut S.M (avInt (f 0 0)) (avInt (f 0 1)) (avInt (f 0 2)) (avInt (f 0 3))) (IntKind.i64.wrap (IntKind.i64.wrap (S.st + 1) + 1)) (LS.mk 1 5 0 0 (mget (memPut S.M (avInt (f 0 0)) (avInt (f 0 1)) (avInt (f 0 2)) (avInt (f 0 3))) (key 5 0 0)) (mget (memPut S.M (avInt (f 0 0)) (avInt (f 0 1)) (avInt (f 0 2)) (avInt (f 0 3))) (key 5 0 0)) false)) (mkR (dPut (dOf R.D.n (wdF R.D.W)) (avInt (f 0 0)) (avInt (f 0 1)) (avInt (f 0 2)) (avInt (f 0 3))).n (wdF (dPut (dOf R.D.n (wdF R.D.W)) (avInt (f 0 0)) (avInt (f 0 1)) (avInt (f 0 2)) (avInt (f 0 3))).W) (IntKind.i64.wrap (IntKind.i64.wrap (R.st + 1) + 1)) (LS.mk 1 5 0 0 (dWord (dOf (dPut (dOf R.D.n (wdF R.D.W)) (avInt (f 0 0)) (avInt (f 0 1)) (avInt (f 0 2)) (avInt (f 0 3))).n (wdF (dPut (dOf R.D.n (wdF R.D.W)) (avInt (f 0 0)) (avInt (f 0 1)) (avInt (f 0 2)) (avInt (f 0 3))).W)) 5 0 0) (dWord (dOf (dPut (dOf R.D.n (wdF R.D.W)) (avInt (f 0 0)) (avInt (f 0 1)) (avInt (f 0 2)) (avInt (f 0 3))).n (wdF (dPut (dOf R.D.n (wdF R.D.W)) (avInt (f 0 0)) (avInt (f 0 1)) (avInt (f 0 2)) (avInt (f 0 3))).W)) 5 0 0) false)),
 decide (0 ≥ IntKind.i64.wrap (IntKind.i64.wrap (if 4 < mget (memPut S.M (avInt (f 0 0)) (avInt (f 0 1)) (avInt (f 0 2)) (avInt (f 0 3))) (key 5 0 0) then 4 else mget (memPut S.M (avInt (f 0 0)) (avInt (f 0 1)) (avInt (f 0 2)) (avInt (f 0 3))) (key 5 0 0)) * 4)) = false,
 (0 == IntKind.i64.wrap (4 * IntKind.i64.wrap (dWord (dOf (dPut (dOf R.D.n (wdF R.D.W)) (avInt (f 0 0)) (avInt (f 0 1)) (avInt (f 0 2)) (avInt (f 0 3))).n (wdF (dPut (dOf R.D.n (wdF R.D.W)) (avInt (f 0 0)) (avInt (f 0 1)) (avInt (f 0 2)) (avInt (f 0 3))).W)) 5 0 0))) = false,
 decide (dWord (dOf (dPut (dOf R.D.n (wdF R.D.W)) (avInt (f 0 0)) (avInt (f 0 1)) (avInt (f 0 2)) (avInt (f 0 3))).n (wdF (dPut (dOf R.D.n (wdF R.D.W)) (avInt (f 0 0)) (avInt (f 0 1)) (avInt (f 0 2)) (avInt (f 0 3))).W)) 5 0 0 > 4) = false,
 (dPut (dOf R.D.n (wdF R.D.W)) (avInt (f 0 0)) (avInt (f 0 1)) (avInt (f 0 2)) (avInt (f 0 3))).n ≤ (dPut (dOf R.D.n (wdF R.D.W)) (avInt (f 0 0)) (avInt (f 0 1)) (avInt (f 0 2)) (avInt (f 0 3))).n,
 (dPut (dOf R.D.n (wdF R.D.W)) (avInt (f 0 0)) (avInt (f 0 1)) (avInt (f 0 2)) (avInt (f 0 3))).n ≤ 1000000,
 R.D.n ≤ R.D.n,
 R.D.n ≤ 100000,
 0 ≤ avInt (f 0 0),
 Nat.blt 0 m = true,
 (Nat.blt (0 : Nat) m && decide ((0 : Int) ≤ (0 : Int))) = true,
 decide (0 < Int.ofNat m) = true]) := by kernel_rfl
theorem pbtz_1 (n : Nat) (g : Nat → Nat → AV) (m : Nat) (f : Nat → Nat → AV) (nb lk al : Int) (S0 S : MS) (R0 R : RS) (y2 : PB) : roundB EBp 4000 pbL ((pbU n g m f nb lk al S0 R0).hp) [(11, Src.nm 1022934564967544334379121780258624735067700639388457746713528552530041811376460798401021903851845049109652088789862522190380392670589185329165164871686)] (pbU n g m f nb lk al S R) [Hint.b true, Hint.node [], Hint.b false, Hint.b true, Hint.node [(3, [Hint.node [], Hint.b true])]] (pbO n g m f nb lk al 0 y2) =
 some (Ex.norm, [(0 : Nat) = 0,
 m = m,
 (none : Option Nat) = none,
 (0 : Nat) = 0,
 (0 : Nat) = 0,
 (0 : Nat) = 0,
 (0 : Nat) = 0,
 (0 : Nat) = 0,
 (0 : Nat) = 0,
 (1 : Int) = 1,
 nb = nb,
 lk = y2.d.lk,
 0 = y2.d.en,
 -1 = y2.d.wt,
 0 = y2.d.th,
 IntKind.i64.wrap (4 * IntKind.i64.wrap (dWord (dOf (dPut (dOf R.D.n (wdF R.D.W)) (avInt (f 0 0)) (avInt (f 0 1)) (avInt (f 0 2)) (avInt (f 0 3))).n (wdF (dPut (dOf R.D.n (wdF R.D.W)) (avInt (f 0 0)) (avInt (f 0 1)) (avInt (f 0 2)) (avInt (f 0 3))).W)) 5 0 0)) = al,
 nb = nb,
 (if 1 > lk then 1 else lk) = y2.x.lk,
 0 = y2.x.th,
 IntKind.i64.wrap (IntKind.i64.wrap (if 4 < mget (memPut S.M (avInt (f 0 0)) (avInt (f 0 1)) (avInt (f 0 2)) (avInt (f 0 3))) (key 5 0 0) then 4 else mget (memPut S.M (avInt (f 0 0)) (avInt (f 0 1)) (avInt (f 0 2)) (avInt (f 0 3))) (key 5 0 0)) * 4) = al,
 0 = y2.x.at_,
 -1 = y2.x.wt,
 0 = y2.x.en,
 (0 : Nat) = 0,
 (0 : Nat) = 0,
 (0 : Nat) = 0,
 (0 : Nat) = 0,
 true = true,
 (1 : Nat) ≤ (1 : Nat),
 tabF tab = tabF tab ∧ plainSh (List.map kindOfV tab) = true ∨ ∀ (i : Nat), i < 1 → rowOb (List.map kindOfV tab) 0 (tabF tab i) (tabF tab i),
 true = true,
 n ≤ n,
 wdF (bgW g) = wdF (bgW g) ∧ plainSh wSh = true ∨ ∀ (i : Nat), i < n → rowOb wSh 0 (wdF (bgW g) i) (wdF (bgW g) i),
 true = true,
 m ≤ m,
 f = f ∧ plainSh wSh = true ∨ ∀ (i : Nat), i < m → rowOb wSh 0 (f i) (f i),
 IntKind.i64.wrap (IntKind.i64.wrap (S.st + 1) + 1) = y2.S.st,
 1 = y2.S.L.c,
 5 = y2.S.L.k,
 0 = y2.S.L.a,
 0 = y2.S.L.f,
 mget (memPut S.M (avInt (f 0 0)) (avInt (f 0 1)) (avInt (f 0 2)) (avInt (f 0 3))) (key 5 0 0) = y2.S.L.w,
 mget (memPut S.M (avInt (f 0 0)) (avInt (f 0 1)) (avInt (f 0 2)) (avInt (f 0 3))) (key 5 0 0) = y2.S.L.i,
 false = y2.S.L.d,
 ∀ (k : List Int), memPut S.M (avInt (f 0 0)) (avInt (f 0 1)) (avInt (f 0 2)) (avInt (f 0 3)) k = y2.S.M k,
 (0 : Nat) = 0,
 (dPut (dOf R.D.n (wdF R.D.W)) (avInt (f 0 0)) (avInt (f 0 1)) (avInt (f 0 2)) (avInt (f 0 3))).n = y2.R.D.n,
 (none : Option Nat) = none,
 IntKind.i64.wrap (IntKind.i64.wrap (R.st + 1) + 1) = y2.R.st,
 1 = y2.R.L.c,
 5 = y2.R.L.k,
 0 = y2.R.L.a,
 0 = y2.R.L.f,
 dWord (dOf (dPut (dOf R.D.n (wdF R.D.W)) (avInt (f 0 0)) (avInt (f 0 1)) (avInt (f 0 2)) (avInt (f 0 3))).n (wdF (dPut (dOf R.D.n (wdF R.D.W)) (avInt (f 0 0)) (avInt (f 0 1)) (avInt (f 0 2)) (avInt (f 0 3))).W)) 5 0 0 = y2.R.L.w,
 dWord (dOf (dPut (dOf R.D.n (wdF R.D.W)) (avInt (f 0 0)) (avInt (f 0 1)) (avInt (f 0 2)) (avInt (f 0 3))).n (wdF (dPut (dOf R.D.n (wdF R.D.W)) (avInt (f 0 0)) (avInt (f 0 1)) (avInt (f 0 2)) (avInt (f 0 3))).W)) 5 0 0 = y2.R.L.i,
 false = y2.R.L.d,
 false = false,
 y2.R.D.n ≤ (dPut (dOf R.D.n (wdF R.D.W)) (avInt (f 0 0)) (avInt (f 0 1)) (avInt (f 0 2)) (avInt (f 0 3))).n,
 wdF y2.R.D.W = wdF (dPut (dOf R.D.n (wdF R.D.W)) (avInt (f 0 0)) (avInt (f 0 1)) (avInt (f 0 2)) (avInt (f 0 3))).W ∧ plainSh wSh = true ∨ ∀ (i : Nat), i < y2.R.D.n → rowOb wSh 0 (wdF (dPut (dOf R.D.n (wdF R.D.W)) (avInt (f 0 0)) (avInt (f 0 1)) (avInt (f 0 2)) (avInt (f 0 3))).W i) (wdF y2.R.D.W i),
 Both (MS.mk (memPut S.M (avInt (f 0 0)) (avInt (f 0 1)) (avInt (f 0 2)) (avInt (f 0 3))) (IntKind.i64.wrap (IntKind.i64.wrap (S.st + 1) + 1)) (LS.mk 1 5 0 0 (mget (memPut S.M (avInt (f 0 0)) (avInt (f 0 1)) (avInt (f 0 2)) (avInt (f 0 3))) (key 5 0 0)) (mget (memPut S.M (avInt (f 0 0)) (avInt (f 0 1)) (avInt (f 0 2)) (avInt (f 0 3))) (key 5 0 0)) false)) (mkR (dPut (dOf R.D.n (wdF R.D.W)) (avInt (f 0 0)) (avInt (f 0 1)) (avInt (f 0 2)) (avInt (f 0 3))).n (wdF (dPut (dOf R.D.n (wdF R.D.W)) (avInt (f 0 0)) (avInt (f 0 1)) (avInt (f 0 2)) (avInt (f 0 3))).W) (IntKind.i64.wrap (IntKind.i64.wrap (R.st + 1) + 1)) (LS.mk 1 5 0 0 (dWord (dOf (dPut (dOf R.D.n (wdF R.D.W)) (avInt (f 0 0)) (avInt (f 0 1)) (avInt (f 0 2)) (avInt (f 0 3))).n (wdF (dPut (dOf R.D.n (wdF R.D.W)) (avInt (f 0 0)) (avInt (f 0 1)) (avInt (f 0 2)) (avInt (f 0 3))).W)) 5 0 0) (dWord (dOf (dPut (dOf R.D.n (wdF R.D.W)) (avInt (f 0 0)) (avInt (f 0 1)) (avInt (f 0 2)) (avInt (f 0 3))).n (wdF (dPut (dOf R.D.n (wdF R.D.W)) (avInt (f 0 0)) (avInt (f 0 1)) (avInt (f 0 2)) (avInt (f 0 3))).W)) 5 0 0) false)),
 decide (0 ≥ IntKind.i64.wrap (IntKind.i64.wrap (if 4 < mget (memPut S.M (avInt (f 0 0)) (avInt (f 0 1)) (avInt (f 0 2)) (avInt (f 0 3))) (key 5 0 0) then 4 else mget (memPut S.M (avInt (f 0 0)) (avInt (f 0 1)) (avInt (f 0 2)) (avInt (f 0 3))) (key 5 0 0)) * 4)) = true,
 (0 == IntKind.i64.wrap (4 * IntKind.i64.wrap (dWord (dOf (dPut (dOf R.D.n (wdF R.D.W)) (avInt (f 0 0)) (avInt (f 0 1)) (avInt (f 0 2)) (avInt (f 0 3))).n (wdF (dPut (dOf R.D.n (wdF R.D.W)) (avInt (f 0 0)) (avInt (f 0 1)) (avInt (f 0 2)) (avInt (f 0 3))).W)) 5 0 0))) = true,
 decide (dWord (dOf (dPut (dOf R.D.n (wdF R.D.W)) (avInt (f 0 0)) (avInt (f 0 1)) (avInt (f 0 2)) (avInt (f 0 3))).n (wdF (dPut (dOf R.D.n (wdF R.D.W)) (avInt (f 0 0)) (avInt (f 0 1)) (avInt (f 0 2)) (avInt (f 0 3))).W)) 5 0 0 > 4) = false,
 (dPut (dOf R.D.n (wdF R.D.W)) (avInt (f 0 0)) (avInt (f 0 1)) (avInt (f 0 2)) (avInt (f 0 3))).n ≤ (dPut (dOf R.D.n (wdF R.D.W)) (avInt (f 0 0)) (avInt (f 0 1)) (avInt (f 0 2)) (avInt (f 0 3))).n,
 (dPut (dOf R.D.n (wdF R.D.W)) (avInt (f 0 0)) (avInt (f 0 1)) (avInt (f 0 2)) (avInt (f 0 3))).n ≤ 1000000,
 R.D.n ≤ R.D.n,
 R.D.n ≤ 100000,
 0 ≤ avInt (f 0 0),
 Nat.blt 0 m = true,
 (Nat.blt (0 : Nat) m && decide ((0 : Int) ≤ (0 : Int))) = true,
 decide (0 < Int.ofNat m) = true]) := by kernel_rfl
theorem pbwtc_1 (n : Nat) (g : Nat → Nat → AV) (m : Nat) (f : Nat → Nat → AV) (nb lk al : Int) (kk : Nat) (S0 : MS) (R0 : RS) (y y2 : PB) : roundB EBp 4000 pbL ((pbU n g m f nb lk al S0 R0).hp) [(11, Src.nm 1022934564967544334379121780258624735067700639388457746713528552530041811376460798401021903851845049109652088789862522190380392670589185329165164871687)] (pbW n g m f nb lk al kk y) [Hint.b true, Hint.b true, Hint.b true, Hint.n 0, Hint.node [(3, [Hint.n 0, Hint.b false]), (10, [Hint.b false]), (20, [Hint.b false]), (29, [Hint.b false]), (38, [Hint.b false])]] (pbW n g m f nb lk al (kk + 1) y2) =
 some (Ex.norm, [(0 : Nat) = 0,
 m = m,
 (none : Option Nat) = none,
 (0 : Nat) = 0,
 (0 : Nat) = 0,
 (0 : Nat) = 0,
 (0 : Nat) = 0,
 (0 : Nat) = 0,
 (0 : Nat) = 0,
 IntKind.i64.wrap (Int.ofNat (kk + 1) + 1) = Int.ofNat (kk + 1 + 1),
 (bpD nb al (BQ.mk y.d.lk y.d.th y.d.at_ y.d.wt y.d.en true) (dWord (dOf (dPut (dOf y.R.D.n (wdF y.R.D.W)) (avInt (f (0 + (kk + 1)) 0)) (avInt (f (0 + (kk + 1)) 1)) (avInt (f (0 + (kk + 1)) 2)) (avInt (f (0 + (kk + 1)) 3))).n (wdF (dPut (dOf y.R.D.n (wdF y.R.D.W)) (avInt (f (0 + (kk + 1)) 0)) (avInt (f (0 + (kk + 1)) 1)) (avInt (f (0 + (kk + 1)) 2)) (avInt (f (0 + (kk + 1)) 3))).W)) 8 y.d.th (bpFld (y.d.at_ - 2)))).at_ = y2.d.at_,
 nb = nb,
 (bpD nb al (BQ.mk y.d.lk y.d.th y.d.at_ y.d.wt y.d.en true) (dWord (dOf (dPut (dOf y.R.D.n (wdF y.R.D.W)) (avInt (f (0 + (kk + 1)) 0)) (avInt (f (0 + (kk + 1)) 1)) (avInt (f (0 + (kk + 1)) 2)) (avInt (f (0 + (kk + 1)) 3))).n (wdF (dPut (dOf y.R.D.n (wdF y.R.D.W)) (avInt (f (0 + (kk + 1)) 0)) (avInt (f (0 + (kk + 1)) 1)) (avInt (f (0 + (kk + 1)) 2)) (avInt (f (0 + (kk + 1)) 3))).W)) 8 y.d.th (bpFld (y.d.at_ - 2)))).lk = y2.d.lk,
 (bpD nb al (BQ.mk y.d.lk y.d.th y.d.at_ y.d.wt y.d.en true) (dWord (dOf (dPut (dOf y.R.D.n (wdF y.R.D.W)) (avInt (f (0 + (kk + 1)) 0)) (avInt (f (0 + (kk + 1)) 1)) (avInt (f (0 + (kk + 1)) 2)) (avInt (f (0 + (kk + 1)) 3))).n (wdF (dPut (dOf y.R.D.n (wdF y.R.D.W)) (avInt (f (0 + (kk + 1)) 0)) (avInt (f (0 + (kk + 1)) 1)) (avInt (f (0 + (kk + 1)) 2)) (avInt (f (0 + (kk + 1)) 3))).W)) 8 y.d.th (bpFld (y.d.at_ - 2)))).en = y2.d.en,
 (bpD nb al (BQ.mk y.d.lk y.d.th y.d.at_ y.d.wt y.d.en true) (dWord (dOf (dPut (dOf y.R.D.n (wdF y.R.D.W)) (avInt (f (0 + (kk + 1)) 0)) (avInt (f (0 + (kk + 1)) 1)) (avInt (f (0 + (kk + 1)) 2)) (avInt (f (0 + (kk + 1)) 3))).n (wdF (dPut (dOf y.R.D.n (wdF y.R.D.W)) (avInt (f (0 + (kk + 1)) 0)) (avInt (f (0 + (kk + 1)) 1)) (avInt (f (0 + (kk + 1)) 2)) (avInt (f (0 + (kk + 1)) 3))).W)) 8 y.d.th (bpFld (y.d.at_ - 2)))).wt = y2.d.wt,
 (bpD nb al (BQ.mk y.d.lk y.d.th y.d.at_ y.d.wt y.d.en true) (dWord (dOf (dPut (dOf y.R.D.n (wdF y.R.D.W)) (avInt (f (0 + (kk + 1)) 0)) (avInt (f (0 + (kk + 1)) 1)) (avInt (f (0 + (kk + 1)) 2)) (avInt (f (0 + (kk + 1)) 3))).n (wdF (dPut (dOf y.R.D.n (wdF y.R.D.W)) (avInt (f (0 + (kk + 1)) 0)) (avInt (f (0 + (kk + 1)) 1)) (avInt (f (0 + (kk + 1)) 2)) (avInt (f (0 + (kk + 1)) 3))).W)) 8 y.d.th (bpFld (y.d.at_ - 2)))).th = y2.d.th,
 al = al,
 nb = nb,
 (bpS nb al (BQ.mk y.x.lk y.x.th y.x.at_ y.x.wt y.x.en true) (mget (memPut y.S.M (avInt (f (0 + (kk + 1)) 0)) (avInt (f (0 + (kk + 1)) 1)) (avInt (f (0 + (kk + 1)) 2)) (avInt (f (0 + (kk + 1)) 3))) (key 8 y.x.th (bpFld y.x.at_)))).lk = y2.x.lk,
 (bpS nb al (BQ.mk y.x.lk y.x.th y.x.at_ y.x.wt y.x.en true) (mget (memPut y.S.M (avInt (f (0 + (kk + 1)) 0)) (avInt (f (0 + (kk + 1)) 1)) (avInt (f (0 + (kk + 1)) 2)) (avInt (f (0 + (kk + 1)) 3))) (key 8 y.x.th (bpFld y.x.at_)))).th = y2.x.th,
 al = al,
 (bpS nb al (BQ.mk y.x.lk y.x.th y.x.at_ y.x.wt y.x.en true) (mget (memPut y.S.M (avInt (f (0 + (kk + 1)) 0)) (avInt (f (0 + (kk + 1)) 1)) (avInt (f (0 + (kk + 1)) 2)) (avInt (f (0 + (kk + 1)) 3))) (key 8 y.x.th (bpFld y.x.at_)))).at_ = y2.x.at_,
 (bpS nb al (BQ.mk y.x.lk y.x.th y.x.at_ y.x.wt y.x.en true) (mget (memPut y.S.M (avInt (f (0 + (kk + 1)) 0)) (avInt (f (0 + (kk + 1)) 1)) (avInt (f (0 + (kk + 1)) 2)) (avInt (f (0 + (kk + 1)) 3))) (key 8 y.x.th (bpFld y.x.at_)))).wt = y2.x.wt,
 (bpS nb al (BQ.mk y.x.lk y.x.th y.x.at_ y.x.wt y.x.en true) (mget (memPut y.S.M (avInt (f (0 + (kk + 1)) 0)) (avInt (f (0 + (kk + 1)) 1)) (avInt (f (0 + (kk + 1)) 2)) (avInt (f (0 + (kk + 1)) 3))) (key 8 y.x.th (bpFld y.x.at_)))).en = y2.x.en,
 (0 : Nat) = 0,
 (0 : Nat) = 0,
 (0 : Nat) = 0,
 (0 : Nat) = 0,
 true = true,
 (1 : Nat) ≤ (1 : Nat),
 tabF tab = tabF tab ∧ plainSh (List.map kindOfV tab) = true ∨ ∀ (i : Nat), i < 1 → rowOb (List.map kindOfV tab) 0 (tabF tab i) (tabF tab i),
 true = true,
 n ≤ n,
 wdF (bgW g) = wdF (bgW g) ∧ plainSh wSh = true ∨ ∀ (i : Nat), i < n → rowOb wSh 0 (wdF (bgW g) i) (wdF (bgW g) i),
 true = true,
 m ≤ m,
 f = f ∧ plainSh wSh = true ∨ ∀ (i : Nat), i < m → rowOb wSh 0 (f i) (f i),
 (mLoad (MS.mk (memPut y.S.M (avInt (f (0 + (kk + 1)) 0)) (avInt (f (0 + (kk + 1)) 1)) (avInt (f (0 + (kk + 1)) 2)) (avInt (f (0 + (kk + 1)) 3))) (IntKind.i64.wrap (y.S.st + 1)) (LS.mk 2 (avInt (f (0 + (kk + 1)) 0)) (avInt (f (0 + (kk + 1)) 1)) (avInt (f (0 + (kk + 1)) 2)) (mget y.S.M (key (avInt (f (0 + (kk + 1)) 0)) (avInt (f (0 + (kk + 1)) 1)) (avInt (f (0 + (kk + 1)) 2)))) (memIs y.S.M (avInt (f (0 + (kk + 1)) 0)) (avInt (f (0 + (kk + 1)) 1)) (avInt (f (0 + (kk + 1)) 2)) (avInt (f (0 + (kk + 1)) 3))) false)) 8 y.x.th (bpFld y.x.at_)).st = y2.S.st,
 1 = y2.S.L.c,
 8 = y2.S.L.k,
 (mLoad (MS.mk (memPut y.S.M (avInt (f (0 + (kk + 1)) 0)) (avInt (f (0 + (kk + 1)) 1)) (avInt (f (0 + (kk + 1)) 2)) (avInt (f (0 + (kk + 1)) 3))) (IntKind.i64.wrap (y.S.st + 1)) (LS.mk 2 (avInt (f (0 + (kk + 1)) 0)) (avInt (f (0 + (kk + 1)) 1)) (avInt (f (0 + (kk + 1)) 2)) (mget y.S.M (key (avInt (f (0 + (kk + 1)) 0)) (avInt (f (0 + (kk + 1)) 1)) (avInt (f (0 + (kk + 1)) 2)))) (memIs y.S.M (avInt (f (0 + (kk + 1)) 0)) (avInt (f (0 + (kk + 1)) 1)) (avInt (f (0 + (kk + 1)) 2)) (avInt (f (0 + (kk + 1)) 3))) false)) 8 y.x.th (bpFld y.x.at_)).L.a = y2.S.L.a,
 (mLoad (MS.mk (memPut y.S.M (avInt (f (0 + (kk + 1)) 0)) (avInt (f (0 + (kk + 1)) 1)) (avInt (f (0 + (kk + 1)) 2)) (avInt (f (0 + (kk + 1)) 3))) (IntKind.i64.wrap (y.S.st + 1)) (LS.mk 2 (avInt (f (0 + (kk + 1)) 0)) (avInt (f (0 + (kk + 1)) 1)) (avInt (f (0 + (kk + 1)) 2)) (mget y.S.M (key (avInt (f (0 + (kk + 1)) 0)) (avInt (f (0 + (kk + 1)) 1)) (avInt (f (0 + (kk + 1)) 2)))) (memIs y.S.M (avInt (f (0 + (kk + 1)) 0)) (avInt (f (0 + (kk + 1)) 1)) (avInt (f (0 + (kk + 1)) 2)) (avInt (f (0 + (kk + 1)) 3))) false)) 8 y.x.th (bpFld y.x.at_)).L.f = y2.S.L.f,
 (mLoad (MS.mk (memPut y.S.M (avInt (f (0 + (kk + 1)) 0)) (avInt (f (0 + (kk + 1)) 1)) (avInt (f (0 + (kk + 1)) 2)) (avInt (f (0 + (kk + 1)) 3))) (IntKind.i64.wrap (y.S.st + 1)) (LS.mk 2 (avInt (f (0 + (kk + 1)) 0)) (avInt (f (0 + (kk + 1)) 1)) (avInt (f (0 + (kk + 1)) 2)) (mget y.S.M (key (avInt (f (0 + (kk + 1)) 0)) (avInt (f (0 + (kk + 1)) 1)) (avInt (f (0 + (kk + 1)) 2)))) (memIs y.S.M (avInt (f (0 + (kk + 1)) 0)) (avInt (f (0 + (kk + 1)) 1)) (avInt (f (0 + (kk + 1)) 2)) (avInt (f (0 + (kk + 1)) 3))) false)) 8 y.x.th (bpFld y.x.at_)).L.w = y2.S.L.w,
 (mLoad (MS.mk (memPut y.S.M (avInt (f (0 + (kk + 1)) 0)) (avInt (f (0 + (kk + 1)) 1)) (avInt (f (0 + (kk + 1)) 2)) (avInt (f (0 + (kk + 1)) 3))) (IntKind.i64.wrap (y.S.st + 1)) (LS.mk 2 (avInt (f (0 + (kk + 1)) 0)) (avInt (f (0 + (kk + 1)) 1)) (avInt (f (0 + (kk + 1)) 2)) (mget y.S.M (key (avInt (f (0 + (kk + 1)) 0)) (avInt (f (0 + (kk + 1)) 1)) (avInt (f (0 + (kk + 1)) 2)))) (memIs y.S.M (avInt (f (0 + (kk + 1)) 0)) (avInt (f (0 + (kk + 1)) 1)) (avInt (f (0 + (kk + 1)) 2)) (avInt (f (0 + (kk + 1)) 3))) false)) 8 y.x.th (bpFld y.x.at_)).L.i = y2.S.L.i,
 (mLoad (MS.mk (memPut y.S.M (avInt (f (0 + (kk + 1)) 0)) (avInt (f (0 + (kk + 1)) 1)) (avInt (f (0 + (kk + 1)) 2)) (avInt (f (0 + (kk + 1)) 3))) (IntKind.i64.wrap (y.S.st + 1)) (LS.mk 2 (avInt (f (0 + (kk + 1)) 0)) (avInt (f (0 + (kk + 1)) 1)) (avInt (f (0 + (kk + 1)) 2)) (mget y.S.M (key (avInt (f (0 + (kk + 1)) 0)) (avInt (f (0 + (kk + 1)) 1)) (avInt (f (0 + (kk + 1)) 2)))) (memIs y.S.M (avInt (f (0 + (kk + 1)) 0)) (avInt (f (0 + (kk + 1)) 1)) (avInt (f (0 + (kk + 1)) 2)) (avInt (f (0 + (kk + 1)) 3))) false)) 8 y.x.th (bpFld y.x.at_)).L.d = y2.S.L.d,
 ∀ (k : List Int), (MS.mk (memPut y.S.M (avInt (f (0 + (kk + 1)) 0)) (avInt (f (0 + (kk + 1)) 1)) (avInt (f (0 + (kk + 1)) 2)) (avInt (f (0 + (kk + 1)) 3))) (IntKind.i64.wrap (y.S.st + 1)) (LS.mk 2 (avInt (f (0 + (kk + 1)) 0)) (avInt (f (0 + (kk + 1)) 1)) (avInt (f (0 + (kk + 1)) 2)) (mget y.S.M (key (avInt (f (0 + (kk + 1)) 0)) (avInt (f (0 + (kk + 1)) 1)) (avInt (f (0 + (kk + 1)) 2)))) (memIs y.S.M (avInt (f (0 + (kk + 1)) 0)) (avInt (f (0 + (kk + 1)) 1)) (avInt (f (0 + (kk + 1)) 2)) (avInt (f (0 + (kk + 1)) 3))) false)).M k = y2.S.M k,
 (0 : Nat) = 0,
 (dPut (dOf y.R.D.n (wdF y.R.D.W)) (avInt (f (0 + (kk + 1)) 0)) (avInt (f (0 + (kk + 1)) 1)) (avInt (f (0 + (kk + 1)) 2)) (avInt (f (0 + (kk + 1)) 3))).n = y2.R.D.n,
 (none : Option Nat) = none,
 (rLoad (mkR (dPut (dOf y.R.D.n (wdF y.R.D.W)) (avInt (f (0 + (kk + 1)) 0)) (avInt (f (0 + (kk + 1)) 1)) (avInt (f (0 + (kk + 1)) 2)) (avInt (f (0 + (kk + 1)) 3))).n (wdF (dPut (dOf y.R.D.n (wdF y.R.D.W)) (avInt (f (0 + (kk + 1)) 0)) (avInt (f (0 + (kk + 1)) 1)) (avInt (f (0 + (kk + 1)) 2)) (avInt (f (0 + (kk + 1)) 3))).W) (IntKind.i64.wrap (y.R.st + 1)) (LS.mk 2 (avInt (f (0 + (kk + 1)) 0)) (avInt (f (0 + (kk + 1)) 1)) (avInt (f (0 + (kk + 1)) 2)) (dWord (dOf y.R.D.n (wdF y.R.D.W)) (avInt (f (0 + (kk + 1)) 0)) (avInt (f (0 + (kk + 1)) 1)) (avInt (f (0 + (kk + 1)) 2))) (dWord (dPut (dOf y.R.D.n (wdF y.R.D.W)) (avInt (f (0 + (kk + 1)) 0)) (avInt (f (0 + (kk + 1)) 1)) (avInt (f (0 + (kk + 1)) 2)) (avInt (f (0 + (kk + 1)) 3))) (avInt (f (0 + (kk + 1)) 0)) (avInt (f (0 + (kk + 1)) 1)) (avInt (f (0 + (kk + 1)) 2))) false)) 8 y.d.th (bpFld (y.d.at_ - 2))).st = y2.R.st,
 1 = y2.R.L.c,
 8 = y2.R.L.k,
 (rLoad (mkR (dPut (dOf y.R.D.n (wdF y.R.D.W)) (avInt (f (0 + (kk + 1)) 0)) (avInt (f (0 + (kk + 1)) 1)) (avInt (f (0 + (kk + 1)) 2)) (avInt (f (0 + (kk + 1)) 3))).n (wdF (dPut (dOf y.R.D.n (wdF y.R.D.W)) (avInt (f (0 + (kk + 1)) 0)) (avInt (f (0 + (kk + 1)) 1)) (avInt (f (0 + (kk + 1)) 2)) (avInt (f (0 + (kk + 1)) 3))).W) (IntKind.i64.wrap (y.R.st + 1)) (LS.mk 2 (avInt (f (0 + (kk + 1)) 0)) (avInt (f (0 + (kk + 1)) 1)) (avInt (f (0 + (kk + 1)) 2)) (dWord (dOf y.R.D.n (wdF y.R.D.W)) (avInt (f (0 + (kk + 1)) 0)) (avInt (f (0 + (kk + 1)) 1)) (avInt (f (0 + (kk + 1)) 2))) (dWord (dPut (dOf y.R.D.n (wdF y.R.D.W)) (avInt (f (0 + (kk + 1)) 0)) (avInt (f (0 + (kk + 1)) 1)) (avInt (f (0 + (kk + 1)) 2)) (avInt (f (0 + (kk + 1)) 3))) (avInt (f (0 + (kk + 1)) 0)) (avInt (f (0 + (kk + 1)) 1)) (avInt (f (0 + (kk + 1)) 2))) false)) 8 y.d.th (bpFld (y.d.at_ - 2))).L.a = y2.R.L.a,
 (rLoad (mkR (dPut (dOf y.R.D.n (wdF y.R.D.W)) (avInt (f (0 + (kk + 1)) 0)) (avInt (f (0 + (kk + 1)) 1)) (avInt (f (0 + (kk + 1)) 2)) (avInt (f (0 + (kk + 1)) 3))).n (wdF (dPut (dOf y.R.D.n (wdF y.R.D.W)) (avInt (f (0 + (kk + 1)) 0)) (avInt (f (0 + (kk + 1)) 1)) (avInt (f (0 + (kk + 1)) 2)) (avInt (f (0 + (kk + 1)) 3))).W) (IntKind.i64.wrap (y.R.st + 1)) (LS.mk 2 (avInt (f (0 + (kk + 1)) 0)) (avInt (f (0 + (kk + 1)) 1)) (avInt (f (0 + (kk + 1)) 2)) (dWord (dOf y.R.D.n (wdF y.R.D.W)) (avInt (f (0 + (kk + 1)) 0)) (avInt (f (0 + (kk + 1)) 1)) (avInt (f (0 + (kk + 1)) 2))) (dWord (dPut (dOf y.R.D.n (wdF y.R.D.W)) (avInt (f (0 + (kk + 1)) 0)) (avInt (f (0 + (kk + 1)) 1)) (avInt (f (0 + (kk + 1)) 2)) (avInt (f (0 + (kk + 1)) 3))) (avInt (f (0 + (kk + 1)) 0)) (avInt (f (0 + (kk + 1)) 1)) (avInt (f (0 + (kk + 1)) 2))) false)) 8 y.d.th (bpFld (y.d.at_ - 2))).L.f = y2.R.L.f,
 (rLoad (mkR (dPut (dOf y.R.D.n (wdF y.R.D.W)) (avInt (f (0 + (kk + 1)) 0)) (avInt (f (0 + (kk + 1)) 1)) (avInt (f (0 + (kk + 1)) 2)) (avInt (f (0 + (kk + 1)) 3))).n (wdF (dPut (dOf y.R.D.n (wdF y.R.D.W)) (avInt (f (0 + (kk + 1)) 0)) (avInt (f (0 + (kk + 1)) 1)) (avInt (f (0 + (kk + 1)) 2)) (avInt (f (0 + (kk + 1)) 3))).W) (IntKind.i64.wrap (y.R.st + 1)) (LS.mk 2 (avInt (f (0 + (kk + 1)) 0)) (avInt (f (0 + (kk + 1)) 1)) (avInt (f (0 + (kk + 1)) 2)) (dWord (dOf y.R.D.n (wdF y.R.D.W)) (avInt (f (0 + (kk + 1)) 0)) (avInt (f (0 + (kk + 1)) 1)) (avInt (f (0 + (kk + 1)) 2))) (dWord (dPut (dOf y.R.D.n (wdF y.R.D.W)) (avInt (f (0 + (kk + 1)) 0)) (avInt (f (0 + (kk + 1)) 1)) (avInt (f (0 + (kk + 1)) 2)) (avInt (f (0 + (kk + 1)) 3))) (avInt (f (0 + (kk + 1)) 0)) (avInt (f (0 + (kk + 1)) 1)) (avInt (f (0 + (kk + 1)) 2))) false)) 8 y.d.th (bpFld (y.d.at_ - 2))).L.w = y2.R.L.w,
 (rLoad (mkR (dPut (dOf y.R.D.n (wdF y.R.D.W)) (avInt (f (0 + (kk + 1)) 0)) (avInt (f (0 + (kk + 1)) 1)) (avInt (f (0 + (kk + 1)) 2)) (avInt (f (0 + (kk + 1)) 3))).n (wdF (dPut (dOf y.R.D.n (wdF y.R.D.W)) (avInt (f (0 + (kk + 1)) 0)) (avInt (f (0 + (kk + 1)) 1)) (avInt (f (0 + (kk + 1)) 2)) (avInt (f (0 + (kk + 1)) 3))).W) (IntKind.i64.wrap (y.R.st + 1)) (LS.mk 2 (avInt (f (0 + (kk + 1)) 0)) (avInt (f (0 + (kk + 1)) 1)) (avInt (f (0 + (kk + 1)) 2)) (dWord (dOf y.R.D.n (wdF y.R.D.W)) (avInt (f (0 + (kk + 1)) 0)) (avInt (f (0 + (kk + 1)) 1)) (avInt (f (0 + (kk + 1)) 2))) (dWord (dPut (dOf y.R.D.n (wdF y.R.D.W)) (avInt (f (0 + (kk + 1)) 0)) (avInt (f (0 + (kk + 1)) 1)) (avInt (f (0 + (kk + 1)) 2)) (avInt (f (0 + (kk + 1)) 3))) (avInt (f (0 + (kk + 1)) 0)) (avInt (f (0 + (kk + 1)) 1)) (avInt (f (0 + (kk + 1)) 2))) false)) 8 y.d.th (bpFld (y.d.at_ - 2))).L.i = y2.R.L.i,
 (rLoad (mkR (dPut (dOf y.R.D.n (wdF y.R.D.W)) (avInt (f (0 + (kk + 1)) 0)) (avInt (f (0 + (kk + 1)) 1)) (avInt (f (0 + (kk + 1)) 2)) (avInt (f (0 + (kk + 1)) 3))).n (wdF (dPut (dOf y.R.D.n (wdF y.R.D.W)) (avInt (f (0 + (kk + 1)) 0)) (avInt (f (0 + (kk + 1)) 1)) (avInt (f (0 + (kk + 1)) 2)) (avInt (f (0 + (kk + 1)) 3))).W) (IntKind.i64.wrap (y.R.st + 1)) (LS.mk 2 (avInt (f (0 + (kk + 1)) 0)) (avInt (f (0 + (kk + 1)) 1)) (avInt (f (0 + (kk + 1)) 2)) (dWord (dOf y.R.D.n (wdF y.R.D.W)) (avInt (f (0 + (kk + 1)) 0)) (avInt (f (0 + (kk + 1)) 1)) (avInt (f (0 + (kk + 1)) 2))) (dWord (dPut (dOf y.R.D.n (wdF y.R.D.W)) (avInt (f (0 + (kk + 1)) 0)) (avInt (f (0 + (kk + 1)) 1)) (avInt (f (0 + (kk + 1)) 2)) (avInt (f (0 + (kk + 1)) 3))) (avInt (f (0 + (kk + 1)) 0)) (avInt (f (0 + (kk + 1)) 1)) (avInt (f (0 + (kk + 1)) 2))) false)) 8 y.d.th (bpFld (y.d.at_ - 2))).L.d = y2.R.L.d,
 false = false,
 y2.R.D.n ≤ (dPut (dOf y.R.D.n (wdF y.R.D.W)) (avInt (f (0 + (kk + 1)) 0)) (avInt (f (0 + (kk + 1)) 1)) (avInt (f (0 + (kk + 1)) 2)) (avInt (f (0 + (kk + 1)) 3))).n,
 wdF y2.R.D.W = wdF (dPut (dOf y.R.D.n (wdF y.R.D.W)) (avInt (f (0 + (kk + 1)) 0)) (avInt (f (0 + (kk + 1)) 1)) (avInt (f (0 + (kk + 1)) 2)) (avInt (f (0 + (kk + 1)) 3))).W ∧ plainSh wSh = true ∨ ∀ (i : Nat), i < y2.R.D.n → rowOb wSh 0 (wdF (dPut (dOf y.R.D.n (wdF y.R.D.W)) (avInt (f (0 + (kk + 1)) 0)) (avInt (f (0 + (kk + 1)) 1)) (avInt (f (0 + (kk + 1)) 2)) (avInt (f (0 + (kk + 1)) 3))).W i) (wdF y2.R.D.W i),
 Both (MS.mk (memPut y.S.M (avInt (f (0 + (kk + 1)) 0)) (avInt (f (0 + (kk + 1)) 1)) (avInt (f (0 + (kk + 1)) 2)) (avInt (f (0 + (kk + 1)) 3))) (mLoad (MS.mk (memPut y.S.M (avInt (f (0 + (kk + 1)) 0)) (avInt (f (0 + (kk + 1)) 1)) (avInt (f (0 + (kk + 1)) 2)) (avInt (f (0 + (kk + 1)) 3))) (IntKind.i64.wrap (y.S.st + 1)) (LS.mk 2 (avInt (f (0 + (kk + 1)) 0)) (avInt (f (0 + (kk + 1)) 1)) (avInt (f (0 + (kk + 1)) 2)) (mget y.S.M (key (avInt (f (0 + (kk + 1)) 0)) (avInt (f (0 + (kk + 1)) 1)) (avInt (f (0 + (kk + 1)) 2)))) (memIs y.S.M (avInt (f (0 + (kk + 1)) 0)) (avInt (f (0 + (kk + 1)) 1)) (avInt (f (0 + (kk + 1)) 2)) (avInt (f (0 + (kk + 1)) 3))) false)) 8 y.x.th (bpFld y.x.at_)).st (LS.mk 1 8 (mLoad (MS.mk (memPut y.S.M (avInt (f (0 + (kk + 1)) 0)) (avInt (f (0 + (kk + 1)) 1)) (avInt (f (0 + (kk + 1)) 2)) (avInt (f (0 + (kk + 1)) 3))) (IntKind.i64.wrap (y.S.st + 1)) (LS.mk 2 (avInt (f (0 + (kk + 1)) 0)) (avInt (f (0 + (kk + 1)) 1)) (avInt (f (0 + (kk + 1)) 2)) (mget y.S.M (key (avInt (f (0 + (kk + 1)) 0)) (avInt (f (0 + (kk + 1)) 1)) (avInt (f (0 + (kk + 1)) 2)))) (memIs y.S.M (avInt (f (0 + (kk + 1)) 0)) (avInt (f (0 + (kk + 1)) 1)) (avInt (f (0 + (kk + 1)) 2)) (avInt (f (0 + (kk + 1)) 3))) false)) 8 y.x.th (bpFld y.x.at_)).L.a (mLoad (MS.mk (memPut y.S.M (avInt (f (0 + (kk + 1)) 0)) (avInt (f (0 + (kk + 1)) 1)) (avInt (f (0 + (kk + 1)) 2)) (avInt (f (0 + (kk + 1)) 3))) (IntKind.i64.wrap (y.S.st + 1)) (LS.mk 2 (avInt (f (0 + (kk + 1)) 0)) (avInt (f (0 + (kk + 1)) 1)) (avInt (f (0 + (kk + 1)) 2)) (mget y.S.M (key (avInt (f (0 + (kk + 1)) 0)) (avInt (f (0 + (kk + 1)) 1)) (avInt (f (0 + (kk + 1)) 2)))) (memIs y.S.M (avInt (f (0 + (kk + 1)) 0)) (avInt (f (0 + (kk + 1)) 1)) (avInt (f (0 + (kk + 1)) 2)) (avInt (f (0 + (kk + 1)) 3))) false)) 8 y.x.th (bpFld y.x.at_)).L.f (mLoad (MS.mk (memPut y.S.M (avInt (f (0 + (kk + 1)) 0)) (avInt (f (0 + (kk + 1)) 1)) (avInt (f (0 + (kk + 1)) 2)) (avInt (f (0 + (kk + 1)) 3))) (IntKind.i64.wrap (y.S.st + 1)) (LS.mk 2 (avInt (f (0 + (kk + 1)) 0)) (avInt (f (0 + (kk + 1)) 1)) (avInt (f (0 + (kk + 1)) 2)) (mget y.S.M (key (avInt (f (0 + (kk + 1)) 0)) (avInt (f (0 + (kk + 1)) 1)) (avInt (f (0 + (kk + 1)) 2)))) (memIs y.S.M (avInt (f (0 + (kk + 1)) 0)) (avInt (f (0 + (kk + 1)) 1)) (avInt (f (0 + (kk + 1)) 2)) (avInt (f (0 + (kk + 1)) 3))) false)) 8 y.x.th (bpFld y.x.at_)).L.w (mLoad (MS.mk (memPut y.S.M (avInt (f (0 + (kk + 1)) 0)) (avInt (f (0 + (kk + 1)) 1)) (avInt (f (0 + (kk + 1)) 2)) (avInt (f (0 + (kk + 1)) 3))) (IntKind.i64.wrap (y.S.st + 1)) (LS.mk 2 (avInt (f (0 + (kk + 1)) 0)) (avInt (f (0 + (kk + 1)) 1)) (avInt (f (0 + (kk + 1)) 2)) (mget y.S.M (key (avInt (f (0 + (kk + 1)) 0)) (avInt (f (0 + (kk + 1)) 1)) (avInt (f (0 + (kk + 1)) 2)))) (memIs y.S.M (avInt (f (0 + (kk + 1)) 0)) (avInt (f (0 + (kk + 1)) 1)) (avInt (f (0 + (kk + 1)) 2)) (avInt (f (0 + (kk + 1)) 3))) false)) 8 y.x.th (bpFld y.x.at_)).L.i (mLoad (MS.mk (memPut y.S.M (avInt (f (0 + (kk + 1)) 0)) (avInt (f (0 + (kk + 1)) 1)) (avInt (f (0 + (kk + 1)) 2)) (avInt (f (0 + (kk + 1)) 3))) (IntKind.i64.wrap (y.S.st + 1)) (LS.mk 2 (avInt (f (0 + (kk + 1)) 0)) (avInt (f (0 + (kk + 1)) 1)) (avInt (f (0 + (kk + 1)) 2)) (mget y.S.M (key (avInt (f (0 + (kk + 1)) 0)) (avInt (f (0 + (kk + 1)) 1)) (avInt (f (0 + (kk + 1)) 2)))) (memIs y.S.M (avInt (f (0 + (kk + 1)) 0)) (avInt (f (0 + (kk + 1)) 1)) (avInt (f (0 + (kk + 1)) 2)) (avInt (f (0 + (kk + 1)) 3))) false)) 8 y.x.th (bpFld y.x.at_)).L.d)) (rLoad (mkR (dPut (dOf y.R.D.n (wdF y.R.D.W)) (avInt (f (0 + (kk + 1)) 0)) (avInt (f (0 + (kk + 1)) 1)) (avInt (f (0 + (kk + 1)) 2)) (avInt (f (0 + (kk + 1)) 3))).n (wdF (dPut (dOf y.R.D.n (wdF y.R.D.W)) (avInt (f (0 + (kk + 1)) 0)) (avInt (f (0 + (kk + 1)) 1)) (avInt (f (0 + (kk + 1)) 2)) (avInt (f (0 + (kk + 1)) 3))).W) (IntKind.i64.wrap (y.R.st + 1)) (LS.mk 2 (avInt (f (0 + (kk + 1)) 0)) (avInt (f (0 + (kk + 1)) 1)) (avInt (f (0 + (kk + 1)) 2)) (dWord (dOf y.R.D.n (wdF y.R.D.W)) (avInt (f (0 + (kk + 1)) 0)) (avInt (f (0 + (kk + 1)) 1)) (avInt (f (0 + (kk + 1)) 2))) (dWord (dPut (dOf y.R.D.n (wdF y.R.D.W)) (avInt (f (0 + (kk + 1)) 0)) (avInt (f (0 + (kk + 1)) 1)) (avInt (f (0 + (kk + 1)) 2)) (avInt (f (0 + (kk + 1)) 3))) (avInt (f (0 + (kk + 1)) 0)) (avInt (f (0 + (kk + 1)) 1)) (avInt (f (0 + (kk + 1)) 2))) false)) 8 y.d.th (bpFld (y.d.at_ - 2))),
 ((bpS nb al (BQ.mk y.x.lk y.x.th y.x.at_ y.x.wt y.x.en true) (mget (memPut y.S.M (avInt (f (0 + (kk + 1)) 0)) (avInt (f (0 + (kk + 1)) 1)) (avInt (f (0 + (kk + 1)) 2)) (avInt (f (0 + (kk + 1)) 3))) (key 8 y.x.th (bpFld y.x.at_)))).wt != (bpD nb al (BQ.mk y.d.lk y.d.th y.d.at_ y.d.wt y.d.en true) (dWord (dOf (dPut (dOf y.R.D.n (wdF y.R.D.W)) (avInt (f (0 + (kk + 1)) 0)) (avInt (f (0 + (kk + 1)) 1)) (avInt (f (0 + (kk + 1)) 2)) (avInt (f (0 + (kk + 1)) 3))).n (wdF (dPut (dOf y.R.D.n (wdF y.R.D.W)) (avInt (f (0 + (kk + 1)) 0)) (avInt (f (0 + (kk + 1)) 1)) (avInt (f (0 + (kk + 1)) 2)) (avInt (f (0 + (kk + 1)) 3))).W)) 8 y.d.th (bpFld (y.d.at_ - 2)))).wt) = false,
 (4 != (bpD nb al (BQ.mk y.d.lk y.d.th y.d.at_ y.d.wt y.d.en true) (dWord (dOf (dPut (dOf y.R.D.n (wdF y.R.D.W)) (avInt (f (0 + (kk + 1)) 0)) (avInt (f (0 + (kk + 1)) 1)) (avInt (f (0 + (kk + 1)) 2)) (avInt (f (0 + (kk + 1)) 3))).n (wdF (dPut (dOf y.R.D.n (wdF y.R.D.W)) (avInt (f (0 + (kk + 1)) 0)) (avInt (f (0 + (kk + 1)) 1)) (avInt (f (0 + (kk + 1)) 2)) (avInt (f (0 + (kk + 1)) 3))).W)) 8 y.d.th (bpFld (y.d.at_ - 2)))).en) = false,
 (((!true) == ((bpD nb al (BQ.mk y.d.lk y.d.th y.d.at_ y.d.wt y.d.en true) (dWord (dOf (dPut (dOf y.R.D.n (wdF y.R.D.W)) (avInt (f (0 + (kk + 1)) 0)) (avInt (f (0 + (kk + 1)) 1)) (avInt (f (0 + (kk + 1)) 2)) (avInt (f (0 + (kk + 1)) 3))).n (wdF (dPut (dOf y.R.D.n (wdF y.R.D.W)) (avInt (f (0 + (kk + 1)) 0)) (avInt (f (0 + (kk + 1)) 1)) (avInt (f (0 + (kk + 1)) 2)) (avInt (f (0 + (kk + 1)) 3))).W)) 8 y.d.th (bpFld (y.d.at_ - 2)))).at_ == 0)) == false) = false,
 ((false == ((bpD nb al (BQ.mk y.d.lk y.d.th y.d.at_ y.d.wt y.d.en true) (dWord (dOf (dPut (dOf y.R.D.n (wdF y.R.D.W)) (avInt (f (0 + (kk + 1)) 0)) (avInt (f (0 + (kk + 1)) 1)) (avInt (f (0 + (kk + 1)) 2)) (avInt (f (0 + (kk + 1)) 3))).n (wdF (dPut (dOf y.R.D.n (wdF y.R.D.W)) (avInt (f (0 + (kk + 1)) 0)) (avInt (f (0 + (kk + 1)) 1)) (avInt (f (0 + (kk + 1)) 2)) (avInt (f (0 + (kk + 1)) 3))).W)) 8 y.d.th (bpFld (y.d.at_ - 2)))).at_ == 0)) == false) = false,
 true = true,
 true = true,
 tabF tab = tabF tab,
 BpPre nb al (BQ.mk y.x.lk y.x.th y.x.at_ y.x.wt y.x.en true),
 (bpS nb al (BQ.mk y.x.lk y.x.th y.x.at_ y.x.wt y.x.en true) (mget (memPut y.S.M (avInt (f (0 + (kk + 1)) 0)) (avInt (f (0 + (kk + 1)) 1)) (avInt (f (0 + (kk + 1)) 2)) (avInt (f (0 + (kk + 1)) 3))) (key 8 y.x.th (bpFld y.x.at_)))).on = true,
 BdPre nb al (BQ.mk y.d.lk y.d.th y.d.at_ y.d.wt y.d.en true) (dPut (dOf y.R.D.n (wdF y.R.D.W)) (avInt (f (0 + (kk + 1)) 0)) (avInt (f (0 + (kk + 1)) 1)) (avInt (f (0 + (kk + 1)) 2)) (avInt (f (0 + (kk + 1)) 3))).n (dPut (dOf y.R.D.n (wdF y.R.D.W)) (avInt (f (0 + (kk + 1)) 0)) (avInt (f (0 + (kk + 1)) 1)) (avInt (f (0 + (kk + 1)) 2)) (avInt (f (0 + (kk + 1)) 3))).n (wdF (dPut (dOf y.R.D.n (wdF y.R.D.W)) (avInt (f (0 + (kk + 1)) 0)) (avInt (f (0 + (kk + 1)) 1)) (avInt (f (0 + (kk + 1)) 2)) (avInt (f (0 + (kk + 1)) 3))).W),
 (bpD nb al (BQ.mk y.d.lk y.d.th y.d.at_ y.d.wt y.d.en true) (dWord (dOf (dPut (dOf y.R.D.n (wdF y.R.D.W)) (avInt (f (0 + (kk + 1)) 0)) (avInt (f (0 + (kk + 1)) 1)) (avInt (f (0 + (kk + 1)) 2)) (avInt (f (0 + (kk + 1)) 3))).n (wdF (dPut (dOf y.R.D.n (wdF y.R.D.W)) (avInt (f (0 + (kk + 1)) 0)) (avInt (f (0 + (kk + 1)) 1)) (avInt (f (0 + (kk + 1)) 2)) (avInt (f (0 + (kk + 1)) 3))).W)) 8 y.d.th (bpFld (y.d.at_ - 2)))).on = true,
 y.R.D.n ≤ y.R.D.n,
 y.R.D.n ≤ 100000,
 0 ≤ avInt (f (0 + (kk + 1)) 0),
 (0 + (kk + 1)).blt m = true,
 ((kk + 1).blt m && decide (0 ≤ Int.ofNat (kk + 1))) = true,
 decide (Int.ofNat (kk + 1) < Int.ofNat m) = true,
 decide (y.d.at_ > 0) = true,
 decide (Int.ofNat (kk + 1) < 400) = true]) := by kernel_rfl
theorem pbwto_1 (n : Nat) (g : Nat → Nat → AV) (m : Nat) (f : Nat → Nat → AV) (nb lk al : Int) (kk : Nat) (S0 : MS) (R0 : RS) (y y2 : PB) : roundB EBp 4000 pbL ((pbU n g m f nb lk al S0 R0).hp) [(11, Src.nm 1022934564967544334379121780258624735067700639388457746713528552530041811376460798401021903851845049109652088789862522190380392670589185329165164871687)] (pbW n g m f nb lk al kk y) [Hint.b true, Hint.b true, Hint.b true, Hint.n 1, Hint.node [(3, [Hint.n 1]), (29, [Hint.b false]), (38, [Hint.b false])]] (pbO n g m f nb lk al (kk + 1) y2) =
 some (Ex.norm, [(0 : Nat) = 0,
 m = m,
 (none : Option Nat) = none,
 (0 : Nat) = 0,
 (0 : Nat) = 0,
 (0 : Nat) = 0,
 (0 : Nat) = 0,
 (0 : Nat) = 0,
 (0 : Nat) = 0,
 IntKind.i64.wrap (Int.ofNat (kk + 1) + 1) = Int.ofNat (kk + 1 + 1),
 nb = nb,
 (bpD nb al (BQ.mk y.d.lk y.d.th y.d.at_ y.d.wt y.d.en true) (dWord (dOf (dPut (dOf y.R.D.n (wdF y.R.D.W)) (avInt (f (0 + (kk + 1)) 0)) (avInt (f (0 + (kk + 1)) 1)) (avInt (f (0 + (kk + 1)) 2)) (avInt (f (0 + (kk + 1)) 3))).n (wdF (dPut (dOf y.R.D.n (wdF y.R.D.W)) (avInt (f (0 + (kk + 1)) 0)) (avInt (f (0 + (kk + 1)) 1)) (avInt (f (0 + (kk + 1)) 2)) (avInt (f (0 + (kk + 1)) 3))).W)) 8 y.d.th (bpFld (y.d.at_ - 2)))).lk = y2.d.lk,
 (bpD nb al (BQ.mk y.d.lk y.d.th y.d.at_ y.d.wt y.d.en true) (dWord (dOf (dPut (dOf y.R.D.n (wdF y.R.D.W)) (avInt (f (0 + (kk + 1)) 0)) (avInt (f (0 + (kk + 1)) 1)) (avInt (f (0 + (kk + 1)) 2)) (avInt (f (0 + (kk + 1)) 3))).n (wdF (dPut (dOf y.R.D.n (wdF y.R.D.W)) (avInt (f (0 + (kk + 1)) 0)) (avInt (f (0 + (kk + 1)) 1)) (avInt (f (0 + (kk + 1)) 2)) (avInt (f (0 + (kk + 1)) 3))).W)) 8 y.d.th (bpFld (y.d.at_ - 2)))).en = y2.d.en,
 (bpD nb al (BQ.mk y.d.lk y.d.th y.d.at_ y.d.wt y.d.en true) (dWord (dOf (dPut (dOf y.R.D.n (wdF y.R.D.W)) (avInt (f (0 + (kk + 1)) 0)) (avInt (f (0 + (kk + 1)) 1)) (avInt (f (0 + (kk + 1)) 2)) (avInt (f (0 + (kk + 1)) 3))).n (wdF (dPut (dOf y.R.D.n (wdF y.R.D.W)) (avInt (f (0 + (kk + 1)) 0)) (avInt (f (0 + (kk + 1)) 1)) (avInt (f (0 + (kk + 1)) 2)) (avInt (f (0 + (kk + 1)) 3))).W)) 8 y.d.th (bpFld (y.d.at_ - 2)))).wt = y2.d.wt,
 (bpD nb al (BQ.mk y.d.lk y.d.th y.d.at_ y.d.wt y.d.en true) (dWord (dOf (dPut (dOf y.R.D.n (wdF y.R.D.W)) (avInt (f (0 + (kk + 1)) 0)) (avInt (f (0 + (kk + 1)) 1)) (avInt (f (0 + (kk + 1)) 2)) (avInt (f (0 + (kk + 1)) 3))).n (wdF (dPut (dOf y.R.D.n (wdF y.R.D.W)) (avInt (f (0 + (kk + 1)) 0)) (avInt (f (0 + (kk + 1)) 1)) (avInt (f (0 + (kk + 1)) 2)) (avInt (f (0 + (kk + 1)) 3))).W)) 8 y.d.th (bpFld (y.d.at_ - 2)))).th = y2.d.th,
 al = al,
 nb = nb,
 (bpS nb al (BQ.mk y.x.lk y.x.th y.x.at_ y.x.wt y.x.en true) (mget (memPut y.S.M (avInt (f (0 + (kk + 1)) 0)) (avInt (f (0 + (kk + 1)) 1)) (avInt (f (0 + (kk + 1)) 2)) (avInt (f (0 + (kk + 1)) 3))) (key 8 y.x.th (bpFld y.x.at_)))).lk = y2.x.lk,
 (bpS nb al (BQ.mk y.x.lk y.x.th y.x.at_ y.x.wt y.x.en true) (mget (memPut y.S.M (avInt (f (0 + (kk + 1)) 0)) (avInt (f (0 + (kk + 1)) 1)) (avInt (f (0 + (kk + 1)) 2)) (avInt (f (0 + (kk + 1)) 3))) (key 8 y.x.th (bpFld y.x.at_)))).th = y2.x.th,
 al = al,
 (bpS nb al (BQ.mk y.x.lk y.x.th y.x.at_ y.x.wt y.x.en true) (mget (memPut y.S.M (avInt (f (0 + (kk + 1)) 0)) (avInt (f (0 + (kk + 1)) 1)) (avInt (f (0 + (kk + 1)) 2)) (avInt (f (0 + (kk + 1)) 3))) (key 8 y.x.th (bpFld y.x.at_)))).at_ = y2.x.at_,
 (bpS nb al (BQ.mk y.x.lk y.x.th y.x.at_ y.x.wt y.x.en true) (mget (memPut y.S.M (avInt (f (0 + (kk + 1)) 0)) (avInt (f (0 + (kk + 1)) 1)) (avInt (f (0 + (kk + 1)) 2)) (avInt (f (0 + (kk + 1)) 3))) (key 8 y.x.th (bpFld y.x.at_)))).wt = y2.x.wt,
 (bpS nb al (BQ.mk y.x.lk y.x.th y.x.at_ y.x.wt y.x.en true) (mget (memPut y.S.M (avInt (f (0 + (kk + 1)) 0)) (avInt (f (0 + (kk + 1)) 1)) (avInt (f (0 + (kk + 1)) 2)) (avInt (f (0 + (kk + 1)) 3))) (key 8 y.x.th (bpFld y.x.at_)))).en = y2.x.en,
 (0 : Nat) = 0,
 (0 : Nat) = 0,
 (0 : Nat) = 0,
 (0 : Nat) = 0,
 true = true,
 (1 : Nat) ≤ (1 : Nat),
 tabF tab = tabF tab ∧ plainSh (List.map kindOfV tab) = true ∨ ∀ (i : Nat), i < 1 → rowOb (List.map kindOfV tab) 0 (tabF tab i) (tabF tab i),
 true = true,
 n ≤ n,
 wdF (bgW g) = wdF (bgW g) ∧ plainSh wSh = true ∨ ∀ (i : Nat), i < n → rowOb wSh 0 (wdF (bgW g) i) (wdF (bgW g) i),
 true = true,
 m ≤ m,
 f = f ∧ plainSh wSh = true ∨ ∀ (i : Nat), i < m → rowOb wSh 0 (f i) (f i),
 (mLoad (MS.mk (memPut y.S.M (avInt (f (0 + (kk + 1)) 0)) (avInt (f (0 + (kk + 1)) 1)) (avInt (f (0 + (kk + 1)) 2)) (avInt (f (0 + (kk + 1)) 3))) (IntKind.i64.wrap (y.S.st + 1)) (LS.mk 2 (avInt (f (0 + (kk + 1)) 0)) (avInt (f (0 + (kk + 1)) 1)) (avInt (f (0 + (kk + 1)) 2)) (mget y.S.M (key (avInt (f (0 + (kk + 1)) 0)) (avInt (f (0 + (kk + 1)) 1)) (avInt (f (0 + (kk + 1)) 2)))) (memIs y.S.M (avInt (f (0 + (kk + 1)) 0)) (avInt (f (0 + (kk + 1)) 1)) (avInt (f (0 + (kk + 1)) 2)) (avInt (f (0 + (kk + 1)) 3))) false)) 8 y.x.th (bpFld y.x.at_)).st = y2.S.st,
 1 = y2.S.L.c,
 8 = y2.S.L.k,
 (mLoad (MS.mk (memPut y.S.M (avInt (f (0 + (kk + 1)) 0)) (avInt (f (0 + (kk + 1)) 1)) (avInt (f (0 + (kk + 1)) 2)) (avInt (f (0 + (kk + 1)) 3))) (IntKind.i64.wrap (y.S.st + 1)) (LS.mk 2 (avInt (f (0 + (kk + 1)) 0)) (avInt (f (0 + (kk + 1)) 1)) (avInt (f (0 + (kk + 1)) 2)) (mget y.S.M (key (avInt (f (0 + (kk + 1)) 0)) (avInt (f (0 + (kk + 1)) 1)) (avInt (f (0 + (kk + 1)) 2)))) (memIs y.S.M (avInt (f (0 + (kk + 1)) 0)) (avInt (f (0 + (kk + 1)) 1)) (avInt (f (0 + (kk + 1)) 2)) (avInt (f (0 + (kk + 1)) 3))) false)) 8 y.x.th (bpFld y.x.at_)).L.a = y2.S.L.a,
 (mLoad (MS.mk (memPut y.S.M (avInt (f (0 + (kk + 1)) 0)) (avInt (f (0 + (kk + 1)) 1)) (avInt (f (0 + (kk + 1)) 2)) (avInt (f (0 + (kk + 1)) 3))) (IntKind.i64.wrap (y.S.st + 1)) (LS.mk 2 (avInt (f (0 + (kk + 1)) 0)) (avInt (f (0 + (kk + 1)) 1)) (avInt (f (0 + (kk + 1)) 2)) (mget y.S.M (key (avInt (f (0 + (kk + 1)) 0)) (avInt (f (0 + (kk + 1)) 1)) (avInt (f (0 + (kk + 1)) 2)))) (memIs y.S.M (avInt (f (0 + (kk + 1)) 0)) (avInt (f (0 + (kk + 1)) 1)) (avInt (f (0 + (kk + 1)) 2)) (avInt (f (0 + (kk + 1)) 3))) false)) 8 y.x.th (bpFld y.x.at_)).L.f = y2.S.L.f,
 (mLoad (MS.mk (memPut y.S.M (avInt (f (0 + (kk + 1)) 0)) (avInt (f (0 + (kk + 1)) 1)) (avInt (f (0 + (kk + 1)) 2)) (avInt (f (0 + (kk + 1)) 3))) (IntKind.i64.wrap (y.S.st + 1)) (LS.mk 2 (avInt (f (0 + (kk + 1)) 0)) (avInt (f (0 + (kk + 1)) 1)) (avInt (f (0 + (kk + 1)) 2)) (mget y.S.M (key (avInt (f (0 + (kk + 1)) 0)) (avInt (f (0 + (kk + 1)) 1)) (avInt (f (0 + (kk + 1)) 2)))) (memIs y.S.M (avInt (f (0 + (kk + 1)) 0)) (avInt (f (0 + (kk + 1)) 1)) (avInt (f (0 + (kk + 1)) 2)) (avInt (f (0 + (kk + 1)) 3))) false)) 8 y.x.th (bpFld y.x.at_)).L.w = y2.S.L.w,
 (mLoad (MS.mk (memPut y.S.M (avInt (f (0 + (kk + 1)) 0)) (avInt (f (0 + (kk + 1)) 1)) (avInt (f (0 + (kk + 1)) 2)) (avInt (f (0 + (kk + 1)) 3))) (IntKind.i64.wrap (y.S.st + 1)) (LS.mk 2 (avInt (f (0 + (kk + 1)) 0)) (avInt (f (0 + (kk + 1)) 1)) (avInt (f (0 + (kk + 1)) 2)) (mget y.S.M (key (avInt (f (0 + (kk + 1)) 0)) (avInt (f (0 + (kk + 1)) 1)) (avInt (f (0 + (kk + 1)) 2)))) (memIs y.S.M (avInt (f (0 + (kk + 1)) 0)) (avInt (f (0 + (kk + 1)) 1)) (avInt (f (0 + (kk + 1)) 2)) (avInt (f (0 + (kk + 1)) 3))) false)) 8 y.x.th (bpFld y.x.at_)).L.i = y2.S.L.i,
 (mLoad (MS.mk (memPut y.S.M (avInt (f (0 + (kk + 1)) 0)) (avInt (f (0 + (kk + 1)) 1)) (avInt (f (0 + (kk + 1)) 2)) (avInt (f (0 + (kk + 1)) 3))) (IntKind.i64.wrap (y.S.st + 1)) (LS.mk 2 (avInt (f (0 + (kk + 1)) 0)) (avInt (f (0 + (kk + 1)) 1)) (avInt (f (0 + (kk + 1)) 2)) (mget y.S.M (key (avInt (f (0 + (kk + 1)) 0)) (avInt (f (0 + (kk + 1)) 1)) (avInt (f (0 + (kk + 1)) 2)))) (memIs y.S.M (avInt (f (0 + (kk + 1)) 0)) (avInt (f (0 + (kk + 1)) 1)) (avInt (f (0 + (kk + 1)) 2)) (avInt (f (0 + (kk + 1)) 3))) false)) 8 y.x.th (bpFld y.x.at_)).L.d = y2.S.L.d,
 ∀ (k : List Int), (MS.mk (memPut y.S.M (avInt (f (0 + (kk + 1)) 0)) (avInt (f (0 + (kk + 1)) 1)) (avInt (f (0 + (kk + 1)) 2)) (avInt (f (0 + (kk + 1)) 3))) (IntKind.i64.wrap (y.S.st + 1)) (LS.mk 2 (avInt (f (0 + (kk + 1)) 0)) (avInt (f (0 + (kk + 1)) 1)) (avInt (f (0 + (kk + 1)) 2)) (mget y.S.M (key (avInt (f (0 + (kk + 1)) 0)) (avInt (f (0 + (kk + 1)) 1)) (avInt (f (0 + (kk + 1)) 2)))) (memIs y.S.M (avInt (f (0 + (kk + 1)) 0)) (avInt (f (0 + (kk + 1)) 1)) (avInt (f (0 + (kk + 1)) 2)) (avInt (f (0 + (kk + 1)) 3))) false)).M k = y2.S.M k,
 (0 : Nat) = 0,
 (dPut (dOf y.R.D.n (wdF y.R.D.W)) (avInt (f (0 + (kk + 1)) 0)) (avInt (f (0 + (kk + 1)) 1)) (avInt (f (0 + (kk + 1)) 2)) (avInt (f (0 + (kk + 1)) 3))).n = y2.R.D.n,
 (none : Option Nat) = none,
 (rLoad (mkR (dPut (dOf y.R.D.n (wdF y.R.D.W)) (avInt (f (0 + (kk + 1)) 0)) (avInt (f (0 + (kk + 1)) 1)) (avInt (f (0 + (kk + 1)) 2)) (avInt (f (0 + (kk + 1)) 3))).n (wdF (dPut (dOf y.R.D.n (wdF y.R.D.W)) (avInt (f (0 + (kk + 1)) 0)) (avInt (f (0 + (kk + 1)) 1)) (avInt (f (0 + (kk + 1)) 2)) (avInt (f (0 + (kk + 1)) 3))).W) (IntKind.i64.wrap (y.R.st + 1)) (LS.mk 2 (avInt (f (0 + (kk + 1)) 0)) (avInt (f (0 + (kk + 1)) 1)) (avInt (f (0 + (kk + 1)) 2)) (dWord (dOf y.R.D.n (wdF y.R.D.W)) (avInt (f (0 + (kk + 1)) 0)) (avInt (f (0 + (kk + 1)) 1)) (avInt (f (0 + (kk + 1)) 2))) (dWord (dPut (dOf y.R.D.n (wdF y.R.D.W)) (avInt (f (0 + (kk + 1)) 0)) (avInt (f (0 + (kk + 1)) 1)) (avInt (f (0 + (kk + 1)) 2)) (avInt (f (0 + (kk + 1)) 3))) (avInt (f (0 + (kk + 1)) 0)) (avInt (f (0 + (kk + 1)) 1)) (avInt (f (0 + (kk + 1)) 2))) false)) 8 y.d.th (bpFld (y.d.at_ - 2))).st = y2.R.st,
 1 = y2.R.L.c,
 8 = y2.R.L.k,
 (rLoad (mkR (dPut (dOf y.R.D.n (wdF y.R.D.W)) (avInt (f (0 + (kk + 1)) 0)) (avInt (f (0 + (kk + 1)) 1)) (avInt (f (0 + (kk + 1)) 2)) (avInt (f (0 + (kk + 1)) 3))).n (wdF (dPut (dOf y.R.D.n (wdF y.R.D.W)) (avInt (f (0 + (kk + 1)) 0)) (avInt (f (0 + (kk + 1)) 1)) (avInt (f (0 + (kk + 1)) 2)) (avInt (f (0 + (kk + 1)) 3))).W) (IntKind.i64.wrap (y.R.st + 1)) (LS.mk 2 (avInt (f (0 + (kk + 1)) 0)) (avInt (f (0 + (kk + 1)) 1)) (avInt (f (0 + (kk + 1)) 2)) (dWord (dOf y.R.D.n (wdF y.R.D.W)) (avInt (f (0 + (kk + 1)) 0)) (avInt (f (0 + (kk + 1)) 1)) (avInt (f (0 + (kk + 1)) 2))) (dWord (dPut (dOf y.R.D.n (wdF y.R.D.W)) (avInt (f (0 + (kk + 1)) 0)) (avInt (f (0 + (kk + 1)) 1)) (avInt (f (0 + (kk + 1)) 2)) (avInt (f (0 + (kk + 1)) 3))) (avInt (f (0 + (kk + 1)) 0)) (avInt (f (0 + (kk + 1)) 1)) (avInt (f (0 + (kk + 1)) 2))) false)) 8 y.d.th (bpFld (y.d.at_ - 2))).L.a = y2.R.L.a,
 (rLoad (mkR (dPut (dOf y.R.D.n (wdF y.R.D.W)) (avInt (f (0 + (kk + 1)) 0)) (avInt (f (0 + (kk + 1)) 1)) (avInt (f (0 + (kk + 1)) 2)) (avInt (f (0 + (kk + 1)) 3))).n (wdF (dPut (dOf y.R.D.n (wdF y.R.D.W)) (avInt (f (0 + (kk + 1)) 0)) (avInt (f (0 + (kk + 1)) 1)) (avInt (f (0 + (kk + 1)) 2)) (avInt (f (0 + (kk + 1)) 3))).W) (IntKind.i64.wrap (y.R.st + 1)) (LS.mk 2 (avInt (f (0 + (kk + 1)) 0)) (avInt (f (0 + (kk + 1)) 1)) (avInt (f (0 + (kk + 1)) 2)) (dWord (dOf y.R.D.n (wdF y.R.D.W)) (avInt (f (0 + (kk + 1)) 0)) (avInt (f (0 + (kk + 1)) 1)) (avInt (f (0 + (kk + 1)) 2))) (dWord (dPut (dOf y.R.D.n (wdF y.R.D.W)) (avInt (f (0 + (kk + 1)) 0)) (avInt (f (0 + (kk + 1)) 1)) (avInt (f (0 + (kk + 1)) 2)) (avInt (f (0 + (kk + 1)) 3))) (avInt (f (0 + (kk + 1)) 0)) (avInt (f (0 + (kk + 1)) 1)) (avInt (f (0 + (kk + 1)) 2))) false)) 8 y.d.th (bpFld (y.d.at_ - 2))).L.f = y2.R.L.f,
 (rLoad (mkR (dPut (dOf y.R.D.n (wdF y.R.D.W)) (avInt (f (0 + (kk + 1)) 0)) (avInt (f (0 + (kk + 1)) 1)) (avInt (f (0 + (kk + 1)) 2)) (avInt (f (0 + (kk + 1)) 3))).n (wdF (dPut (dOf y.R.D.n (wdF y.R.D.W)) (avInt (f (0 + (kk + 1)) 0)) (avInt (f (0 + (kk + 1)) 1)) (avInt (f (0 + (kk + 1)) 2)) (avInt (f (0 + (kk + 1)) 3))).W) (IntKind.i64.wrap (y.R.st + 1)) (LS.mk 2 (avInt (f (0 + (kk + 1)) 0)) (avInt (f (0 + (kk + 1)) 1)) (avInt (f (0 + (kk + 1)) 2)) (dWord (dOf y.R.D.n (wdF y.R.D.W)) (avInt (f (0 + (kk + 1)) 0)) (avInt (f (0 + (kk + 1)) 1)) (avInt (f (0 + (kk + 1)) 2))) (dWord (dPut (dOf y.R.D.n (wdF y.R.D.W)) (avInt (f (0 + (kk + 1)) 0)) (avInt (f (0 + (kk + 1)) 1)) (avInt (f (0 + (kk + 1)) 2)) (avInt (f (0 + (kk + 1)) 3))) (avInt (f (0 + (kk + 1)) 0)) (avInt (f (0 + (kk + 1)) 1)) (avInt (f (0 + (kk + 1)) 2))) false)) 8 y.d.th (bpFld (y.d.at_ - 2))).L.w = y2.R.L.w,
 (rLoad (mkR (dPut (dOf y.R.D.n (wdF y.R.D.W)) (avInt (f (0 + (kk + 1)) 0)) (avInt (f (0 + (kk + 1)) 1)) (avInt (f (0 + (kk + 1)) 2)) (avInt (f (0 + (kk + 1)) 3))).n (wdF (dPut (dOf y.R.D.n (wdF y.R.D.W)) (avInt (f (0 + (kk + 1)) 0)) (avInt (f (0 + (kk + 1)) 1)) (avInt (f (0 + (kk + 1)) 2)) (avInt (f (0 + (kk + 1)) 3))).W) (IntKind.i64.wrap (y.R.st + 1)) (LS.mk 2 (avInt (f (0 + (kk + 1)) 0)) (avInt (f (0 + (kk + 1)) 1)) (avInt (f (0 + (kk + 1)) 2)) (dWord (dOf y.R.D.n (wdF y.R.D.W)) (avInt (f (0 + (kk + 1)) 0)) (avInt (f (0 + (kk + 1)) 1)) (avInt (f (0 + (kk + 1)) 2))) (dWord (dPut (dOf y.R.D.n (wdF y.R.D.W)) (avInt (f (0 + (kk + 1)) 0)) (avInt (f (0 + (kk + 1)) 1)) (avInt (f (0 + (kk + 1)) 2)) (avInt (f (0 + (kk + 1)) 3))) (avInt (f (0 + (kk + 1)) 0)) (avInt (f (0 + (kk + 1)) 1)) (avInt (f (0 + (kk + 1)) 2))) false)) 8 y.d.th (bpFld (y.d.at_ - 2))).L.i = y2.R.L.i,
 (rLoad (mkR (dPut (dOf y.R.D.n (wdF y.R.D.W)) (avInt (f (0 + (kk + 1)) 0)) (avInt (f (0 + (kk + 1)) 1)) (avInt (f (0 + (kk + 1)) 2)) (avInt (f (0 + (kk + 1)) 3))).n (wdF (dPut (dOf y.R.D.n (wdF y.R.D.W)) (avInt (f (0 + (kk + 1)) 0)) (avInt (f (0 + (kk + 1)) 1)) (avInt (f (0 + (kk + 1)) 2)) (avInt (f (0 + (kk + 1)) 3))).W) (IntKind.i64.wrap (y.R.st + 1)) (LS.mk 2 (avInt (f (0 + (kk + 1)) 0)) (avInt (f (0 + (kk + 1)) 1)) (avInt (f (0 + (kk + 1)) 2)) (dWord (dOf y.R.D.n (wdF y.R.D.W)) (avInt (f (0 + (kk + 1)) 0)) (avInt (f (0 + (kk + 1)) 1)) (avInt (f (0 + (kk + 1)) 2))) (dWord (dPut (dOf y.R.D.n (wdF y.R.D.W)) (avInt (f (0 + (kk + 1)) 0)) (avInt (f (0 + (kk + 1)) 1)) (avInt (f (0 + (kk + 1)) 2)) (avInt (f (0 + (kk + 1)) 3))) (avInt (f (0 + (kk + 1)) 0)) (avInt (f (0 + (kk + 1)) 1)) (avInt (f (0 + (kk + 1)) 2))) false)) 8 y.d.th (bpFld (y.d.at_ - 2))).L.d = y2.R.L.d,
 false = false,
 y2.R.D.n ≤ (dPut (dOf y.R.D.n (wdF y.R.D.W)) (avInt (f (0 + (kk + 1)) 0)) (avInt (f (0 + (kk + 1)) 1)) (avInt (f (0 + (kk + 1)) 2)) (avInt (f (0 + (kk + 1)) 3))).n,
 wdF y2.R.D.W = wdF (dPut (dOf y.R.D.n (wdF y.R.D.W)) (avInt (f (0 + (kk + 1)) 0)) (avInt (f (0 + (kk + 1)) 1)) (avInt (f (0 + (kk + 1)) 2)) (avInt (f (0 + (kk + 1)) 3))).W ∧ plainSh wSh = true ∨ ∀ (i : Nat), i < y2.R.D.n → rowOb wSh 0 (wdF (dPut (dOf y.R.D.n (wdF y.R.D.W)) (avInt (f (0 + (kk + 1)) 0)) (avInt (f (0 + (kk + 1)) 1)) (avInt (f (0 + (kk + 1)) 2)) (avInt (f (0 + (kk + 1)) 3))).W i) (wdF y2.R.D.W i),
 Both (MS.mk (memPut y.S.M (avInt (f (0 + (kk + 1)) 0)) (avInt (f (0 + (kk + 1)) 1)) (avInt (f (0 + (kk + 1)) 2)) (avInt (f (0 + (kk + 1)) 3))) (mLoad (MS.mk (memPut y.S.M (avInt (f (0 + (kk + 1)) 0)) (avInt (f (0 + (kk + 1)) 1)) (avInt (f (0 + (kk + 1)) 2)) (avInt (f (0 + (kk + 1)) 3))) (IntKind.i64.wrap (y.S.st + 1)) (LS.mk 2 (avInt (f (0 + (kk + 1)) 0)) (avInt (f (0 + (kk + 1)) 1)) (avInt (f (0 + (kk + 1)) 2)) (mget y.S.M (key (avInt (f (0 + (kk + 1)) 0)) (avInt (f (0 + (kk + 1)) 1)) (avInt (f (0 + (kk + 1)) 2)))) (memIs y.S.M (avInt (f (0 + (kk + 1)) 0)) (avInt (f (0 + (kk + 1)) 1)) (avInt (f (0 + (kk + 1)) 2)) (avInt (f (0 + (kk + 1)) 3))) false)) 8 y.x.th (bpFld y.x.at_)).st (LS.mk 1 8 (mLoad (MS.mk (memPut y.S.M (avInt (f (0 + (kk + 1)) 0)) (avInt (f (0 + (kk + 1)) 1)) (avInt (f (0 + (kk + 1)) 2)) (avInt (f (0 + (kk + 1)) 3))) (IntKind.i64.wrap (y.S.st + 1)) (LS.mk 2 (avInt (f (0 + (kk + 1)) 0)) (avInt (f (0 + (kk + 1)) 1)) (avInt (f (0 + (kk + 1)) 2)) (mget y.S.M (key (avInt (f (0 + (kk + 1)) 0)) (avInt (f (0 + (kk + 1)) 1)) (avInt (f (0 + (kk + 1)) 2)))) (memIs y.S.M (avInt (f (0 + (kk + 1)) 0)) (avInt (f (0 + (kk + 1)) 1)) (avInt (f (0 + (kk + 1)) 2)) (avInt (f (0 + (kk + 1)) 3))) false)) 8 y.x.th (bpFld y.x.at_)).L.a (mLoad (MS.mk (memPut y.S.M (avInt (f (0 + (kk + 1)) 0)) (avInt (f (0 + (kk + 1)) 1)) (avInt (f (0 + (kk + 1)) 2)) (avInt (f (0 + (kk + 1)) 3))) (IntKind.i64.wrap (y.S.st + 1)) (LS.mk 2 (avInt (f (0 + (kk + 1)) 0)) (avInt (f (0 + (kk + 1)) 1)) (avInt (f (0 + (kk + 1)) 2)) (mget y.S.M (key (avInt (f (0 + (kk + 1)) 0)) (avInt (f (0 + (kk + 1)) 1)) (avInt (f (0 + (kk + 1)) 2)))) (memIs y.S.M (avInt (f (0 + (kk + 1)) 0)) (avInt (f (0 + (kk + 1)) 1)) (avInt (f (0 + (kk + 1)) 2)) (avInt (f (0 + (kk + 1)) 3))) false)) 8 y.x.th (bpFld y.x.at_)).L.f (mLoad (MS.mk (memPut y.S.M (avInt (f (0 + (kk + 1)) 0)) (avInt (f (0 + (kk + 1)) 1)) (avInt (f (0 + (kk + 1)) 2)) (avInt (f (0 + (kk + 1)) 3))) (IntKind.i64.wrap (y.S.st + 1)) (LS.mk 2 (avInt (f (0 + (kk + 1)) 0)) (avInt (f (0 + (kk + 1)) 1)) (avInt (f (0 + (kk + 1)) 2)) (mget y.S.M (key (avInt (f (0 + (kk + 1)) 0)) (avInt (f (0 + (kk + 1)) 1)) (avInt (f (0 + (kk + 1)) 2)))) (memIs y.S.M (avInt (f (0 + (kk + 1)) 0)) (avInt (f (0 + (kk + 1)) 1)) (avInt (f (0 + (kk + 1)) 2)) (avInt (f (0 + (kk + 1)) 3))) false)) 8 y.x.th (bpFld y.x.at_)).L.w (mLoad (MS.mk (memPut y.S.M (avInt (f (0 + (kk + 1)) 0)) (avInt (f (0 + (kk + 1)) 1)) (avInt (f (0 + (kk + 1)) 2)) (avInt (f (0 + (kk + 1)) 3))) (IntKind.i64.wrap (y.S.st + 1)) (LS.mk 2 (avInt (f (0 + (kk + 1)) 0)) (avInt (f (0 + (kk + 1)) 1)) (avInt (f (0 + (kk + 1)) 2)) (mget y.S.M (key (avInt (f (0 + (kk + 1)) 0)) (avInt (f (0 + (kk + 1)) 1)) (avInt (f (0 + (kk + 1)) 2)))) (memIs y.S.M (avInt (f (0 + (kk + 1)) 0)) (avInt (f (0 + (kk + 1)) 1)) (avInt (f (0 + (kk + 1)) 2)) (avInt (f (0 + (kk + 1)) 3))) false)) 8 y.x.th (bpFld y.x.at_)).L.i (mLoad (MS.mk (memPut y.S.M (avInt (f (0 + (kk + 1)) 0)) (avInt (f (0 + (kk + 1)) 1)) (avInt (f (0 + (kk + 1)) 2)) (avInt (f (0 + (kk + 1)) 3))) (IntKind.i64.wrap (y.S.st + 1)) (LS.mk 2 (avInt (f (0 + (kk + 1)) 0)) (avInt (f (0 + (kk + 1)) 1)) (avInt (f (0 + (kk + 1)) 2)) (mget y.S.M (key (avInt (f (0 + (kk + 1)) 0)) (avInt (f (0 + (kk + 1)) 1)) (avInt (f (0 + (kk + 1)) 2)))) (memIs y.S.M (avInt (f (0 + (kk + 1)) 0)) (avInt (f (0 + (kk + 1)) 1)) (avInt (f (0 + (kk + 1)) 2)) (avInt (f (0 + (kk + 1)) 3))) false)) 8 y.x.th (bpFld y.x.at_)).L.d)) (rLoad (mkR (dPut (dOf y.R.D.n (wdF y.R.D.W)) (avInt (f (0 + (kk + 1)) 0)) (avInt (f (0 + (kk + 1)) 1)) (avInt (f (0 + (kk + 1)) 2)) (avInt (f (0 + (kk + 1)) 3))).n (wdF (dPut (dOf y.R.D.n (wdF y.R.D.W)) (avInt (f (0 + (kk + 1)) 0)) (avInt (f (0 + (kk + 1)) 1)) (avInt (f (0 + (kk + 1)) 2)) (avInt (f (0 + (kk + 1)) 3))).W) (IntKind.i64.wrap (y.R.st + 1)) (LS.mk 2 (avInt (f (0 + (kk + 1)) 0)) (avInt (f (0 + (kk + 1)) 1)) (avInt (f (0 + (kk + 1)) 2)) (dWord (dOf y.R.D.n (wdF y.R.D.W)) (avInt (f (0 + (kk + 1)) 0)) (avInt (f (0 + (kk + 1)) 1)) (avInt (f (0 + (kk + 1)) 2))) (dWord (dPut (dOf y.R.D.n (wdF y.R.D.W)) (avInt (f (0 + (kk + 1)) 0)) (avInt (f (0 + (kk + 1)) 1)) (avInt (f (0 + (kk + 1)) 2)) (avInt (f (0 + (kk + 1)) 3))) (avInt (f (0 + (kk + 1)) 0)) (avInt (f (0 + (kk + 1)) 1)) (avInt (f (0 + (kk + 1)) 2))) false)) 8 y.d.th (bpFld (y.d.at_ - 2))),
 ((bpS nb al (BQ.mk y.x.lk y.x.th y.x.at_ y.x.wt y.x.en true) (mget (memPut y.S.M (avInt (f (0 + (kk + 1)) 0)) (avInt (f (0 + (kk + 1)) 1)) (avInt (f (0 + (kk + 1)) 2)) (avInt (f (0 + (kk + 1)) 3))) (key 8 y.x.th (bpFld y.x.at_)))).wt != (bpD nb al (BQ.mk y.d.lk y.d.th y.d.at_ y.d.wt y.d.en true) (dWord (dOf (dPut (dOf y.R.D.n (wdF y.R.D.W)) (avInt (f (0 + (kk + 1)) 0)) (avInt (f (0 + (kk + 1)) 1)) (avInt (f (0 + (kk + 1)) 2)) (avInt (f (0 + (kk + 1)) 3))).n (wdF (dPut (dOf y.R.D.n (wdF y.R.D.W)) (avInt (f (0 + (kk + 1)) 0)) (avInt (f (0 + (kk + 1)) 1)) (avInt (f (0 + (kk + 1)) 2)) (avInt (f (0 + (kk + 1)) 3))).W)) 8 y.d.th (bpFld (y.d.at_ - 2)))).wt) = false,
 ((bpS nb al (BQ.mk y.x.lk y.x.th y.x.at_ y.x.wt y.x.en true) (mget (memPut y.S.M (avInt (f (0 + (kk + 1)) 0)) (avInt (f (0 + (kk + 1)) 1)) (avInt (f (0 + (kk + 1)) 2)) (avInt (f (0 + (kk + 1)) 3))) (key 8 y.x.th (bpFld y.x.at_)))).en != (bpD nb al (BQ.mk y.d.lk y.d.th y.d.at_ y.d.wt y.d.en true) (dWord (dOf (dPut (dOf y.R.D.n (wdF y.R.D.W)) (avInt (f (0 + (kk + 1)) 0)) (avInt (f (0 + (kk + 1)) 1)) (avInt (f (0 + (kk + 1)) 2)) (avInt (f (0 + (kk + 1)) 3))).n (wdF (dPut (dOf y.R.D.n (wdF y.R.D.W)) (avInt (f (0 + (kk + 1)) 0)) (avInt (f (0 + (kk + 1)) 1)) (avInt (f (0 + (kk + 1)) 2)) (avInt (f (0 + (kk + 1)) 3))).W)) 8 y.d.th (bpFld (y.d.at_ - 2)))).en) = false,
 true = true,
 true = true,
 tabF tab = tabF tab,
 BpPre nb al (BQ.mk y.x.lk y.x.th y.x.at_ y.x.wt y.x.en true),
 (bpS nb al (BQ.mk y.x.lk y.x.th y.x.at_ y.x.wt y.x.en true) (mget (memPut y.S.M (avInt (f (0 + (kk + 1)) 0)) (avInt (f (0 + (kk + 1)) 1)) (avInt (f (0 + (kk + 1)) 2)) (avInt (f (0 + (kk + 1)) 3))) (key 8 y.x.th (bpFld y.x.at_)))).on = false,
 BdPre nb al (BQ.mk y.d.lk y.d.th y.d.at_ y.d.wt y.d.en true) (dPut (dOf y.R.D.n (wdF y.R.D.W)) (avInt (f (0 + (kk + 1)) 0)) (avInt (f (0 + (kk + 1)) 1)) (avInt (f (0 + (kk + 1)) 2)) (avInt (f (0 + (kk + 1)) 3))).n (dPut (dOf y.R.D.n (wdF y.R.D.W)) (avInt (f (0 + (kk + 1)) 0)) (avInt (f (0 + (kk + 1)) 1)) (avInt (f (0 + (kk + 1)) 2)) (avInt (f (0 + (kk + 1)) 3))).n (wdF (dPut (dOf y.R.D.n (wdF y.R.D.W)) (avInt (f (0 + (kk + 1)) 0)) (avInt (f (0 + (kk + 1)) 1)) (avInt (f (0 + (kk + 1)) 2)) (avInt (f (0 + (kk + 1)) 3))).W),
 (bpD nb al (BQ.mk y.d.lk y.d.th y.d.at_ y.d.wt y.d.en true) (dWord (dOf (dPut (dOf y.R.D.n (wdF y.R.D.W)) (avInt (f (0 + (kk + 1)) 0)) (avInt (f (0 + (kk + 1)) 1)) (avInt (f (0 + (kk + 1)) 2)) (avInt (f (0 + (kk + 1)) 3))).n (wdF (dPut (dOf y.R.D.n (wdF y.R.D.W)) (avInt (f (0 + (kk + 1)) 0)) (avInt (f (0 + (kk + 1)) 1)) (avInt (f (0 + (kk + 1)) 2)) (avInt (f (0 + (kk + 1)) 3))).W)) 8 y.d.th (bpFld (y.d.at_ - 2)))).on = false,
 y.R.D.n ≤ y.R.D.n,
 y.R.D.n ≤ 100000,
 0 ≤ avInt (f (0 + (kk + 1)) 0),
 (0 + (kk + 1)).blt m = true,
 ((kk + 1).blt m && decide (0 ≤ Int.ofNat (kk + 1))) = true,
 decide (Int.ofNat (kk + 1) < Int.ofNat m) = true,
 decide (y.d.at_ > 0) = true,
 decide (Int.ofNat (kk + 1) < 400) = true]) := by kernel_rfl
theorem pbfh_1 (n : Nat) (g : Nat → Nat → AV) (m : Nat) (f : Nat → Nat → AV) (nb lk al : Int) (S0 S : MS) (R0 R : RS) (y2 : PB) : roundB EBp 4000 pbL ((pbU n g m f nb lk al S0 R0).hp) [(11, Src.nm 7)] (pbU n g m f nb lk al S R) [Hint.b false, Hint.b true, Hint.node [(3, [Hint.node [], Hint.b false])]] (pbW n g m f nb lk al 0 y2) =
 some (Ex.norm, [(0 : Nat) = 0,
 m = m,
 (none : Option Nat) = none,
 (0 : Nat) = 0,
 (0 : Nat) = 0,
 (0 : Nat) = 0,
 (0 : Nat) = 0,
 (0 : Nat) = 0,
 (0 : Nat) = 0,
 (1 : Int) = 1,
 2 = y2.d.at_,
 nb = nb,
 lk = y2.d.lk,
 4 = y2.d.en,
 -1 = y2.d.wt,
 0 = y2.d.th,
 16 = al,
 nb = nb,
 (if 1 > lk then 1 else lk) = y2.x.lk,
 0 = y2.x.th,
 IntKind.i64.wrap (IntKind.i64.wrap (if 4 < mget S.M (key 5 0 0) then 4 else mget S.M (key 5 0 0)) * 4) = al,
 0 = y2.x.at_,
 -1 = y2.x.wt,
 0 = y2.x.en,
 (0 : Nat) = 0,
 (0 : Nat) = 0,
 (0 : Nat) = 0,
 (0 : Nat) = 0,
 true = true,
 (1 : Nat) ≤ (1 : Nat),
 tabF tab = tabF tab ∧ plainSh (List.map kindOfV tab) = true ∨ ∀ (i : Nat), i < 1 → rowOb (List.map kindOfV tab) 0 (tabF tab i) (tabF tab i),
 true = true,
 n ≤ n,
 wdF (bgW g) = wdF (bgW g) ∧ plainSh wSh = true ∨ ∀ (i : Nat), i < n → rowOb wSh 0 (wdF (bgW g) i) (wdF (bgW g) i),
 true = true,
 m ≤ m,
 f = f ∧ plainSh wSh = true ∨ ∀ (i : Nat), i < m → rowOb wSh 0 (f i) (f i),
 IntKind.i64.wrap (S.st + 1) = y2.S.st,
 1 = y2.S.L.c,
 5 = y2.S.L.k,
 0 = y2.S.L.a,
 0 = y2.S.L.f,
 mget S.M (key 5 0 0) = y2.S.L.w,
 mget S.M (key 5 0 0) = y2.S.L.i,
 false = y2.S.L.d,
 ∀ (k : List Int), S.M k = y2.S.M k,
 (0 : Nat) = 0,
 R.D.n = y2.R.D.n,
 (none : Option Nat) = none,
 IntKind.i64.wrap (R.st + 1) = y2.R.st,
 1 = y2.R.L.c,
 5 = y2.R.L.k,
 0 = y2.R.L.a,
 0 = y2.R.L.f,
 dWord (dOf R.D.n (wdF R.D.W)) 5 0 0 = y2.R.L.w,
 dWord (dOf R.D.n (wdF R.D.W)) 5 0 0 = y2.R.L.i,
 false = y2.R.L.d,
 false = false,
 y2.R.D.n ≤ R.D.n,
 wdF y2.R.D.W = wdF R.D.W ∧ plainSh wSh = true ∨ ∀ (i : Nat), i < y2.R.D.n → rowOb wSh 0 (wdF R.D.W i) (wdF y2.R.D.W i),
 Both (MS.mk S.M (IntKind.i64.wrap (S.st + 1)) (LS.mk 1 5 0 0 (mget S.M (key 5 0 0)) (mget S.M (key 5 0 0)) false)) (mkR R.D.n (wdF R.D.W) (IntKind.i64.wrap (R.st + 1)) (LS.mk 1 5 0 0 (dWord (dOf R.D.n (wdF R.D.W)) 5 0 0) (dWord (dOf R.D.n (wdF R.D.W)) 5 0 0) false)),
 decide (0 ≥ IntKind.i64.wrap (IntKind.i64.wrap (if 4 < mget S.M (key 5 0 0) then 4 else mget S.M (key 5 0 0)) * 4)) = false,
 decide (dWord (dOf R.D.n (wdF R.D.W)) 5 0 0 > 4) = true,
 R.D.n ≤ R.D.n,
 R.D.n ≤ 1000000,
 decide (0 < Int.ofNat m) = false]) := by kernel_rfl
theorem pbfn_1 (n : Nat) (g : Nat → Nat → AV) (m : Nat) (f : Nat → Nat → AV) (nb lk al : Int) (S0 S : MS) (R0 R : RS) (y2 : PB) : roundB EBp 4000 pbL ((pbU n g m f nb lk al S0 R0).hp) [(11, Src.nm 7)] (pbU n g m f nb lk al S R) [Hint.b false, Hint.b false, Hint.b false, Hint.node [(3, [Hint.node [], Hint.b false])]] (pbW n g m f nb lk al 0 y2) =
 some (Ex.norm, [(0 : Nat) = 0,
 m = m,
 (none : Option Nat) = none,
 (0 : Nat) = 0,
 (0 : Nat) = 0,
 (0 : Nat) = 0,
 (0 : Nat) = 0,
 (0 : Nat) = 0,
 (0 : Nat) = 0,
 (1 : Int) = 1,
 2 = y2.d.at_,
 nb = nb,
 lk = y2.d.lk,
 4 = y2.d.en,
 -1 = y2.d.wt,
 0 = y2.d.th,
 IntKind.i64.wrap (4 * IntKind.i64.wrap (dWord (dOf R.D.n (wdF R.D.W)) 5 0 0)) = al,
 nb = nb,
 (if 1 > lk then 1 else lk) = y2.x.lk,
 0 = y2.x.th,
 IntKind.i64.wrap (IntKind.i64.wrap (if 4 < mget S.M (key 5 0 0) then 4 else mget S.M (key 5 0 0)) * 4) = al,
 0 = y2.x.at_,
 -1 = y2.x.wt,
 0 = y2.x.en,
 (0 : Nat) = 0,
 (0 : Nat) = 0,
 (0 : Nat) = 0,
 (0 : Nat) = 0,
 true = true,
 (1 : Nat) ≤ (1 : Nat),
 tabF tab = tabF tab ∧ plainSh (List.map kindOfV tab) = true ∨ ∀ (i : Nat), i < 1 → rowOb (List.map kindOfV tab) 0 (tabF tab i) (tabF tab i),
 true = true,
 n ≤ n,
 wdF (bgW g) = wdF (bgW g) ∧ plainSh wSh = true ∨ ∀ (i : Nat), i < n → rowOb wSh 0 (wdF (bgW g) i) (wdF (bgW g) i),
 true = true,
 m ≤ m,
 f = f ∧ plainSh wSh = true ∨ ∀ (i : Nat), i < m → rowOb wSh 0 (f i) (f i),
 IntKind.i64.wrap (S.st + 1) = y2.S.st,
 1 = y2.S.L.c,
 5 = y2.S.L.k,
 0 = y2.S.L.a,
 0 = y2.S.L.f,
 mget S.M (key 5 0 0) = y2.S.L.w,
 mget S.M (key 5 0 0) = y2.S.L.i,
 false = y2.S.L.d,
 ∀ (k : List Int), S.M k = y2.S.M k,
 (0 : Nat) = 0,
 R.D.n = y2.R.D.n,
 (none : Option Nat) = none,
 IntKind.i64.wrap (R.st + 1) = y2.R.st,
 1 = y2.R.L.c,
 5 = y2.R.L.k,
 0 = y2.R.L.a,
 0 = y2.R.L.f,
 dWord (dOf R.D.n (wdF R.D.W)) 5 0 0 = y2.R.L.w,
 dWord (dOf R.D.n (wdF R.D.W)) 5 0 0 = y2.R.L.i,
 false = y2.R.L.d,
 false = false,
 y2.R.D.n ≤ R.D.n,
 wdF y2.R.D.W = wdF R.D.W ∧ plainSh wSh = true ∨ ∀ (i : Nat), i < y2.R.D.n → rowOb wSh 0 (wdF R.D.W i) (wdF y2.R.D.W i),
 Both (MS.mk S.M (IntKind.i64.wrap (S.st + 1)) (LS.mk 1 5 0 0 (mget S.M (key 5 0 0)) (mget S.M (key 5 0 0)) false)) (mkR R.D.n (wdF R.D.W) (IntKind.i64.wrap (R.st + 1)) (LS.mk 1 5 0 0 (dWord (dOf R.D.n (wdF R.D.W)) 5 0 0) (dWord (dOf R.D.n (wdF R.D.W)) 5 0 0) false)),
 decide (0 ≥ IntKind.i64.wrap (IntKind.i64.wrap (if 4 < mget S.M (key 5 0 0) then 4 else mget S.M (key 5 0 0)) * 4)) = false,
 (0 == IntKind.i64.wrap (4 * IntKind.i64.wrap (dWord (dOf R.D.n (wdF R.D.W)) 5 0 0))) = false,
 decide (dWord (dOf R.D.n (wdF R.D.W)) 5 0 0 > 4) = false,
 R.D.n ≤ R.D.n,
 R.D.n ≤ 1000000,
 decide (0 < Int.ofNat m) = false]) := by kernel_rfl
theorem pbfz_1 (n : Nat) (g : Nat → Nat → AV) (m : Nat) (f : Nat → Nat → AV) (nb lk al : Int) (S0 S : MS) (R0 R : RS) (y2 : PB) : roundB EBp 4000 pbL ((pbU n g m f nb lk al S0 R0).hp) [(11, Src.nm 7)] (pbU n g m f nb lk al S R) [Hint.b false, Hint.b false, Hint.b true, Hint.node [(3, [Hint.node [], Hint.b true])]] (pbO n g m f nb lk al 0 y2) =
 some (Ex.norm, [(0 : Nat) = 0,
 m = m,
 (none : Option Nat) = none,
 (0 : Nat) = 0,
 (0 : Nat) = 0,
 (0 : Nat) = 0,
 (0 : Nat) = 0,
 (0 : Nat) = 0,
 (0 : Nat) = 0,
 (1 : Int) = 1,
 nb = nb,
 lk = y2.d.lk,
 0 = y2.d.en,
 -1 = y2.d.wt,
 0 = y2.d.th,
 IntKind.i64.wrap (4 * IntKind.i64.wrap (dWord (dOf R.D.n (wdF R.D.W)) 5 0 0)) = al,
 nb = nb,
 (if 1 > lk then 1 else lk) = y2.x.lk,
 0 = y2.x.th,
 IntKind.i64.wrap (IntKind.i64.wrap (if 4 < mget S.M (key 5 0 0) then 4 else mget S.M (key 5 0 0)) * 4) = al,
 0 = y2.x.at_,
 -1 = y2.x.wt,
 0 = y2.x.en,
 (0 : Nat) = 0,
 (0 : Nat) = 0,
 (0 : Nat) = 0,
 (0 : Nat) = 0,
 true = true,
 (1 : Nat) ≤ (1 : Nat),
 tabF tab = tabF tab ∧ plainSh (List.map kindOfV tab) = true ∨ ∀ (i : Nat), i < 1 → rowOb (List.map kindOfV tab) 0 (tabF tab i) (tabF tab i),
 true = true,
 n ≤ n,
 wdF (bgW g) = wdF (bgW g) ∧ plainSh wSh = true ∨ ∀ (i : Nat), i < n → rowOb wSh 0 (wdF (bgW g) i) (wdF (bgW g) i),
 true = true,
 m ≤ m,
 f = f ∧ plainSh wSh = true ∨ ∀ (i : Nat), i < m → rowOb wSh 0 (f i) (f i),
 IntKind.i64.wrap (S.st + 1) = y2.S.st,
 1 = y2.S.L.c,
 5 = y2.S.L.k,
 0 = y2.S.L.a,
 0 = y2.S.L.f,
 mget S.M (key 5 0 0) = y2.S.L.w,
 mget S.M (key 5 0 0) = y2.S.L.i,
 false = y2.S.L.d,
 ∀ (k : List Int), S.M k = y2.S.M k,
 (0 : Nat) = 0,
 R.D.n = y2.R.D.n,
 (none : Option Nat) = none,
 IntKind.i64.wrap (R.st + 1) = y2.R.st,
 1 = y2.R.L.c,
 5 = y2.R.L.k,
 0 = y2.R.L.a,
 0 = y2.R.L.f,
 dWord (dOf R.D.n (wdF R.D.W)) 5 0 0 = y2.R.L.w,
 dWord (dOf R.D.n (wdF R.D.W)) 5 0 0 = y2.R.L.i,
 false = y2.R.L.d,
 false = false,
 y2.R.D.n ≤ R.D.n,
 wdF y2.R.D.W = wdF R.D.W ∧ plainSh wSh = true ∨ ∀ (i : Nat), i < y2.R.D.n → rowOb wSh 0 (wdF R.D.W i) (wdF y2.R.D.W i),
 Both (MS.mk S.M (IntKind.i64.wrap (S.st + 1)) (LS.mk 1 5 0 0 (mget S.M (key 5 0 0)) (mget S.M (key 5 0 0)) false)) (mkR R.D.n (wdF R.D.W) (IntKind.i64.wrap (R.st + 1)) (LS.mk 1 5 0 0 (dWord (dOf R.D.n (wdF R.D.W)) 5 0 0) (dWord (dOf R.D.n (wdF R.D.W)) 5 0 0) false)),
 decide (0 ≥ IntKind.i64.wrap (IntKind.i64.wrap (if 4 < mget S.M (key 5 0 0) then 4 else mget S.M (key 5 0 0)) * 4)) = true,
 (0 == IntKind.i64.wrap (4 * IntKind.i64.wrap (dWord (dOf R.D.n (wdF R.D.W)) 5 0 0))) = true,
 decide (dWord (dOf R.D.n (wdF R.D.W)) 5 0 0 > 4) = false,
 R.D.n ≤ R.D.n,
 R.D.n ≤ 1000000,
 decide (0 < Int.ofNat m) = false]) := by kernel_rfl
theorem pbwfc_1 (n : Nat) (g : Nat → Nat → AV) (m : Nat) (f : Nat → Nat → AV) (nb lk al : Int) (kk : Nat) (S0 : MS) (R0 : RS) (y y2 : PB) : roundB EBp 4000 pbL ((pbU n g m f nb lk al S0 R0).hp) [(11, Src.nm 11)] (pbW n g m f nb lk al kk y) [Hint.b true, Hint.b true, Hint.b false, Hint.n 0, Hint.node [(3, [Hint.n 0, Hint.b false]), (10, [Hint.b false]), (20, [Hint.b false]), (29, [Hint.b false]), (38, [Hint.b false])]] (pbW n g m f nb lk al (kk + 1) y2) =
 some (Ex.norm, [(0 : Nat) = 0,
 m = m,
 (none : Option Nat) = none,
 (0 : Nat) = 0,
 (0 : Nat) = 0,
 (0 : Nat) = 0,
 (0 : Nat) = 0,
 (0 : Nat) = 0,
 (0 : Nat) = 0,
 IntKind.i64.wrap (Int.ofNat (kk + 1) + 1) = Int.ofNat (kk + 1 + 1),
 (bpD nb al (BQ.mk y.d.lk y.d.th y.d.at_ y.d.wt y.d.en true) (dWord (dOf y.R.D.n (wdF y.R.D.W)) 8 y.d.th (bpFld (y.d.at_ - 2)))).at_ = y2.d.at_,
 nb = nb,
 (bpD nb al (BQ.mk y.d.lk y.d.th y.d.at_ y.d.wt y.d.en true) (dWord (dOf y.R.D.n (wdF y.R.D.W)) 8 y.d.th (bpFld (y.d.at_ - 2)))).lk = y2.d.lk,
 (bpD nb al (BQ.mk y.d.lk y.d.th y.d.at_ y.d.wt y.d.en true) (dWord (dOf y.R.D.n (wdF y.R.D.W)) 8 y.d.th (bpFld (y.d.at_ - 2)))).en = y2.d.en,
 (bpD nb al (BQ.mk y.d.lk y.d.th y.d.at_ y.d.wt y.d.en true) (dWord (dOf y.R.D.n (wdF y.R.D.W)) 8 y.d.th (bpFld (y.d.at_ - 2)))).wt = y2.d.wt,
 (bpD nb al (BQ.mk y.d.lk y.d.th y.d.at_ y.d.wt y.d.en true) (dWord (dOf y.R.D.n (wdF y.R.D.W)) 8 y.d.th (bpFld (y.d.at_ - 2)))).th = y2.d.th,
 al = al,
 nb = nb,
 (bpS nb al (BQ.mk y.x.lk y.x.th y.x.at_ y.x.wt y.x.en true) (mget y.S.M (key 8 y.x.th (bpFld y.x.at_)))).lk = y2.x.lk,
 (bpS nb al (BQ.mk y.x.lk y.x.th y.x.at_ y.x.wt y.x.en true) (mget y.S.M (key 8 y.x.th (bpFld y.x.at_)))).th = y2.x.th,
 al = al,
 (bpS nb al (BQ.mk y.x.lk y.x.th y.x.at_ y.x.wt y.x.en true) (mget y.S.M (key 8 y.x.th (bpFld y.x.at_)))).at_ = y2.x.at_,
 (bpS nb al (BQ.mk y.x.lk y.x.th y.x.at_ y.x.wt y.x.en true) (mget y.S.M (key 8 y.x.th (bpFld y.x.at_)))).wt = y2.x.wt,
 (bpS nb al (BQ.mk y.x.lk y.x.th y.x.at_ y.x.wt y.x.en true) (mget y.S.M (key 8 y.x.th (bpFld y.x.at_)))).en = y2.x.en,
 (0 : Nat) = 0,
 (0 : Nat) = 0,
 (0 : Nat) = 0,
 (0 : Nat) = 0,
 true = true,
 (1 : Nat) ≤ (1 : Nat),
 tabF tab = tabF tab ∧ plainSh (List.map kindOfV tab) = true ∨ ∀ (i : Nat), i < 1 → rowOb (List.map kindOfV tab) 0 (tabF tab i) (tabF tab i),
 true = true,
 n ≤ n,
 wdF (bgW g) = wdF (bgW g) ∧ plainSh wSh = true ∨ ∀ (i : Nat), i < n → rowOb wSh 0 (wdF (bgW g) i) (wdF (bgW g) i),
 true = true,
 m ≤ m,
 f = f ∧ plainSh wSh = true ∨ ∀ (i : Nat), i < m → rowOb wSh 0 (f i) (f i),
 (mLoad y.S 8 y.x.th (bpFld y.x.at_)).st = y2.S.st,
 1 = y2.S.L.c,
 8 = y2.S.L.k,
 (mLoad y.S 8 y.x.th (bpFld y.x.at_)).L.a = y2.S.L.a,
 (mLoad y.S 8 y.x.th (bpFld y.x.at_)).L.f = y2.S.L.f,
 (mLoad y.S 8 y.x.th (bpFld y.x.at_)).L.w = y2.S.L.w,
 (mLoad y.S 8 y.x.th (bpFld y.x.at_)).L.i = y2.S.L.i,
 (mLoad y.S 8 y.x.th (bpFld y.x.at_)).L.d = y2.S.L.d,
 ∀ (k : List Int), y.S.M k = y2.S.M k,
 (0 : Nat) = 0,
 y.R.D.n = y2.R.D.n,
 (none : Option Nat) = none,
 (rLoad y.R 8 y.d.th (bpFld (y.d.at_ - 2))).st = y2.R.st,
 1 = y2.R.L.c,
 8 = y2.R.L.k,
 (rLoad y.R 8 y.d.th (bpFld (y.d.at_ - 2))).L.a = y2.R.L.a,
 (rLoad y.R 8 y.d.th (bpFld (y.d.at_ - 2))).L.f = y2.R.L.f,
 (rLoad y.R 8 y.d.th (bpFld (y.d.at_ - 2))).L.w = y2.R.L.w,
 (rLoad y.R 8 y.d.th (bpFld (y.d.at_ - 2))).L.i = y2.R.L.i,
 (rLoad y.R 8 y.d.th (bpFld (y.d.at_ - 2))).L.d = y2.R.L.d,
 false = false,
 y2.R.D.n ≤ y.R.D.n,
 wdF y2.R.D.W = wdF y.R.D.W ∧ plainSh wSh = true ∨ ∀ (i : Nat), i < y2.R.D.n → rowOb wSh 0 (wdF y.R.D.W i) (wdF y2.R.D.W i),
 Both (MS.mk y.S.M (mLoad y.S 8 y.x.th (bpFld y.x.at_)).st (LS.mk 1 8 (mLoad y.S 8 y.x.th (bpFld y.x.at_)).L.a (mLoad y.S 8 y.x.th (bpFld y.x.at_)).L.f (mLoad y.S 8 y.x.th (bpFld y.x.at_)).L.w (mLoad y.S 8 y.x.th (bpFld y.x.at_)).L.i (mLoad y.S 8 y.x.th (bpFld y.x.at_)).L.d)) (rLoad y.R 8 y.d.th (bpFld (y.d.at_ - 2))),
 ((bpS nb al (BQ.mk y.x.lk y.x.th y.x.at_ y.x.wt y.x.en true) (mget y.S.M (key 8 y.x.th (bpFld y.x.at_)))).wt != (bpD nb al (BQ.mk y.d.lk y.d.th y.d.at_ y.d.wt y.d.en true) (dWord (dOf y.R.D.n (wdF y.R.D.W)) 8 y.d.th (bpFld (y.d.at_ - 2)))).wt) = false,
 (4 != (bpD nb al (BQ.mk y.d.lk y.d.th y.d.at_ y.d.wt y.d.en true) (dWord (dOf y.R.D.n (wdF y.R.D.W)) 8 y.d.th (bpFld (y.d.at_ - 2)))).en) = false,
 (((!true) == ((bpD nb al (BQ.mk y.d.lk y.d.th y.d.at_ y.d.wt y.d.en true) (dWord (dOf y.R.D.n (wdF y.R.D.W)) 8 y.d.th (bpFld (y.d.at_ - 2)))).at_ == 0)) == false) = false,
 ((false == ((bpD nb al (BQ.mk y.d.lk y.d.th y.d.at_ y.d.wt y.d.en true) (dWord (dOf y.R.D.n (wdF y.R.D.W)) 8 y.d.th (bpFld (y.d.at_ - 2)))).at_ == 0)) == false) = false,
 true = true,
 true = true,
 tabF tab = tabF tab,
 BpPre nb al (BQ.mk y.x.lk y.x.th y.x.at_ y.x.wt y.x.en true),
 (bpS nb al (BQ.mk y.x.lk y.x.th y.x.at_ y.x.wt y.x.en true) (mget y.S.M (key 8 y.x.th (bpFld y.x.at_)))).on = true,
 BdPre nb al (BQ.mk y.d.lk y.d.th y.d.at_ y.d.wt y.d.en true) y.R.D.n y.R.D.n (wdF y.R.D.W),
 (bpD nb al (BQ.mk y.d.lk y.d.th y.d.at_ y.d.wt y.d.en true) (dWord (dOf y.R.D.n (wdF y.R.D.W)) 8 y.d.th (bpFld (y.d.at_ - 2)))).on = true,
 decide (Int.ofNat (kk + 1) < Int.ofNat m) = false,
 decide (y.d.at_ > 0) = true,
 decide (Int.ofNat (kk + 1) < 400) = true]) := by kernel_rfl
theorem pbwfo_1 (n : Nat) (g : Nat → Nat → AV) (m : Nat) (f : Nat → Nat → AV) (nb lk al : Int) (kk : Nat) (S0 : MS) (R0 : RS) (y y2 : PB) : roundB EBp 4000 pbL ((pbU n g m f nb lk al S0 R0).hp) [(11, Src.nm 11)] (pbW n g m f nb lk al kk y) [Hint.b true, Hint.b true, Hint.b false, Hint.n 1, Hint.node [(3, [Hint.n 1]), (29, [Hint.b false]), (38, [Hint.b false])]] (pbO n g m f nb lk al (kk + 1) y2) =
 some (Ex.norm, [(0 : Nat) = 0,
 m = m,
 (none : Option Nat) = none,
 (0 : Nat) = 0,
 (0 : Nat) = 0,
 (0 : Nat) = 0,
 (0 : Nat) = 0,
 (0 : Nat) = 0,
 (0 : Nat) = 0,
 IntKind.i64.wrap (Int.ofNat (kk + 1) + 1) = Int.ofNat (kk + 1 + 1),
 nb = nb,
 (bpD nb al (BQ.mk y.d.lk y.d.th y.d.at_ y.d.wt y.d.en true) (dWord (dOf y.R.D.n (wdF y.R.D.W)) 8 y.d.th (bpFld (y.d.at_ - 2)))).lk = y2.d.lk,
 (bpD nb al (BQ.mk y.d.lk y.d.th y.d.at_ y.d.wt y.d.en true) (dWord (dOf y.R.D.n (wdF y.R.D.W)) 8 y.d.th (bpFld (y.d.at_ - 2)))).en = y2.d.en,
 (bpD nb al (BQ.mk y.d.lk y.d.th y.d.at_ y.d.wt y.d.en true) (dWord (dOf y.R.D.n (wdF y.R.D.W)) 8 y.d.th (bpFld (y.d.at_ - 2)))).wt = y2.d.wt,
 (bpD nb al (BQ.mk y.d.lk y.d.th y.d.at_ y.d.wt y.d.en true) (dWord (dOf y.R.D.n (wdF y.R.D.W)) 8 y.d.th (bpFld (y.d.at_ - 2)))).th = y2.d.th,
 al = al,
 nb = nb,
 (bpS nb al (BQ.mk y.x.lk y.x.th y.x.at_ y.x.wt y.x.en true) (mget y.S.M (key 8 y.x.th (bpFld y.x.at_)))).lk = y2.x.lk,
 (bpS nb al (BQ.mk y.x.lk y.x.th y.x.at_ y.x.wt y.x.en true) (mget y.S.M (key 8 y.x.th (bpFld y.x.at_)))).th = y2.x.th,
 al = al,
 (bpS nb al (BQ.mk y.x.lk y.x.th y.x.at_ y.x.wt y.x.en true) (mget y.S.M (key 8 y.x.th (bpFld y.x.at_)))).at_ = y2.x.at_,
 (bpS nb al (BQ.mk y.x.lk y.x.th y.x.at_ y.x.wt y.x.en true) (mget y.S.M (key 8 y.x.th (bpFld y.x.at_)))).wt = y2.x.wt,
 (bpS nb al (BQ.mk y.x.lk y.x.th y.x.at_ y.x.wt y.x.en true) (mget y.S.M (key 8 y.x.th (bpFld y.x.at_)))).en = y2.x.en,
 (0 : Nat) = 0,
 (0 : Nat) = 0,
 (0 : Nat) = 0,
 (0 : Nat) = 0,
 true = true,
 (1 : Nat) ≤ (1 : Nat),
 tabF tab = tabF tab ∧ plainSh (List.map kindOfV tab) = true ∨ ∀ (i : Nat), i < 1 → rowOb (List.map kindOfV tab) 0 (tabF tab i) (tabF tab i),
 true = true,
 n ≤ n,
 wdF (bgW g) = wdF (bgW g) ∧ plainSh wSh = true ∨ ∀ (i : Nat), i < n → rowOb wSh 0 (wdF (bgW g) i) (wdF (bgW g) i),
 true = true,
 m ≤ m,
 f = f ∧ plainSh wSh = true ∨ ∀ (i : Nat), i < m → rowOb wSh 0 (f i) (f i),
 (mLoad y.S 8 y.x.th (bpFld y.x.at_)).st = y2.S.st,
 1 = y2.S.L.c,
 8 = y2.S.L.k,
 (mLoad y.S 8 y.x.th (bpFld y.x.at_)).L.a = y2.S.L.a,
 (mLoad y.S 8 y.x.th (bpFld y.x.at_)).L.f = y2.S.L.f,
 (mLoad y.S 8 y.x.th (bpFld y.x.at_)).L.w = y2.S.L.w,
 (mLoad y.S 8 y.x.th (bpFld y.x.at_)).L.i = y2.S.L.i,
 (mLoad y.S 8 y.x.th (bpFld y.x.at_)).L.d = y2.S.L.d,
 ∀ (k : List Int), y.S.M k = y2.S.M k,
 (0 : Nat) = 0,
 y.R.D.n = y2.R.D.n,
 (none : Option Nat) = none,
 (rLoad y.R 8 y.d.th (bpFld (y.d.at_ - 2))).st = y2.R.st,
 1 = y2.R.L.c,
 8 = y2.R.L.k,
 (rLoad y.R 8 y.d.th (bpFld (y.d.at_ - 2))).L.a = y2.R.L.a,
 (rLoad y.R 8 y.d.th (bpFld (y.d.at_ - 2))).L.f = y2.R.L.f,
 (rLoad y.R 8 y.d.th (bpFld (y.d.at_ - 2))).L.w = y2.R.L.w,
 (rLoad y.R 8 y.d.th (bpFld (y.d.at_ - 2))).L.i = y2.R.L.i,
 (rLoad y.R 8 y.d.th (bpFld (y.d.at_ - 2))).L.d = y2.R.L.d,
 false = false,
 y2.R.D.n ≤ y.R.D.n,
 wdF y2.R.D.W = wdF y.R.D.W ∧ plainSh wSh = true ∨ ∀ (i : Nat), i < y2.R.D.n → rowOb wSh 0 (wdF y.R.D.W i) (wdF y2.R.D.W i),
 Both (MS.mk y.S.M (mLoad y.S 8 y.x.th (bpFld y.x.at_)).st (LS.mk 1 8 (mLoad y.S 8 y.x.th (bpFld y.x.at_)).L.a (mLoad y.S 8 y.x.th (bpFld y.x.at_)).L.f (mLoad y.S 8 y.x.th (bpFld y.x.at_)).L.w (mLoad y.S 8 y.x.th (bpFld y.x.at_)).L.i (mLoad y.S 8 y.x.th (bpFld y.x.at_)).L.d)) (rLoad y.R 8 y.d.th (bpFld (y.d.at_ - 2))),
 ((bpS nb al (BQ.mk y.x.lk y.x.th y.x.at_ y.x.wt y.x.en true) (mget y.S.M (key 8 y.x.th (bpFld y.x.at_)))).wt != (bpD nb al (BQ.mk y.d.lk y.d.th y.d.at_ y.d.wt y.d.en true) (dWord (dOf y.R.D.n (wdF y.R.D.W)) 8 y.d.th (bpFld (y.d.at_ - 2)))).wt) = false,
 ((bpS nb al (BQ.mk y.x.lk y.x.th y.x.at_ y.x.wt y.x.en true) (mget y.S.M (key 8 y.x.th (bpFld y.x.at_)))).en != (bpD nb al (BQ.mk y.d.lk y.d.th y.d.at_ y.d.wt y.d.en true) (dWord (dOf y.R.D.n (wdF y.R.D.W)) 8 y.d.th (bpFld (y.d.at_ - 2)))).en) = false,
 true = true,
 true = true,
 tabF tab = tabF tab,
 BpPre nb al (BQ.mk y.x.lk y.x.th y.x.at_ y.x.wt y.x.en true),
 (bpS nb al (BQ.mk y.x.lk y.x.th y.x.at_ y.x.wt y.x.en true) (mget y.S.M (key 8 y.x.th (bpFld y.x.at_)))).on = false,
 BdPre nb al (BQ.mk y.d.lk y.d.th y.d.at_ y.d.wt y.d.en true) y.R.D.n y.R.D.n (wdF y.R.D.W),
 (bpD nb al (BQ.mk y.d.lk y.d.th y.d.at_ y.d.wt y.d.en true) (dWord (dOf y.R.D.n (wdF y.R.D.W)) 8 y.d.th (bpFld (y.d.at_ - 2)))).on = false,
 decide (Int.ofNat (kk + 1) < Int.ofNat m) = false,
 decide (y.d.at_ > 0) = true,
 decide (Int.ofNat (kk + 1) < 400) = true]) := by kernel_rfl
theorem pbx_1 (n : Nat) (g : Nat → Nat → AV) (m : Nat) (f : Nat → Nat → AV) (nb lk al : Int) (kk : Nat) (S0 : MS) (R0 : RS) (y y2 : PB) : roundB EBp 4000 pbL ((pbU n g m f nb lk al S0 R0).hp) [(11, Src.nm 11)] (pbO n g m f nb lk al kk y) [Hint.b true] (pbX n g m f nb lk al y) =
 some (Ex.exit 0, [(0 : Nat) = 0,
 (0 : Nat) = 0,
 (0 : Nat) = 0,
 (0 : Nat) = 0,
 (0 : Nat) = 0,
 (0 : Nat) = 0,
 nb = nb,
 y.d.lk = y.d.lk,
 y.d.en = y.d.en,
 y.d.wt = y.d.wt,
 y.d.th = y.d.th,
 al = al,
 nb = nb,
 y.x.lk = y.x.lk,
 y.x.th = y.x.th,
 al = al,
 y.x.at_ = y.x.at_,
 y.x.wt = y.x.wt,
 y.x.en = y.x.en,
 (0 : Nat) = 0,
 (0 : Nat) = 0,
 (0 : Nat) = 0,
 (0 : Nat) = 0,
 true = true,
 (1 : Nat) ≤ (1 : Nat),
 tabF tab = tabF tab ∧ plainSh (List.map kindOfV tab) = true ∨ ∀ (i : Nat), i < 1 → rowOb (List.map kindOfV tab) 0 (tabF tab i) (tabF tab i),
 true = true,
 n ≤ n,
 wdF (bgW g) = wdF (bgW g) ∧ plainSh wSh = true ∨ ∀ (i : Nat), i < n → rowOb wSh 0 (wdF (bgW g) i) (wdF (bgW g) i),
 true = true,
 m ≤ m,
 f = f ∧ plainSh wSh = true ∨ ∀ (i : Nat), i < m → rowOb wSh 0 (f i) (f i),
 y.S.st = y.S.st,
 y.S.L.c = y.S.L.c,
 y.S.L.k = y.S.L.k,
 y.S.L.a = y.S.L.a,
 y.S.L.f = y.S.L.f,
 y.S.L.w = y.S.L.w,
 y.S.L.i = y.S.L.i,
 y.S.L.d = y.S.L.d,
 ∀ (k : List Int), y.S.M k = y.S.M k,
 (0 : Nat) = 0,
 y.R.D.n = y.R.D.n,
 (none : Option Nat) = none,
 y.R.st = y.R.st,
 y.R.L.c = y.R.L.c,
 y.R.L.k = y.R.L.k,
 y.R.L.a = y.R.L.a,
 y.R.L.f = y.R.L.f,
 y.R.L.w = y.R.L.w,
 y.R.L.i = y.R.L.i,
 y.R.L.d = y.R.L.d,
 false = false,
 y.R.D.n ≤ y.R.D.n,
 wdF y.R.D.W = wdF y.R.D.W ∧ plainSh wSh = true ∨ ∀ (i : Nat), i < y.R.D.n → rowOb wSh 0 (wdF y.R.D.W i) (wdF y.R.D.W i),
 decide (Int.ofNat (kk + 1) < 400) = true]) := by kernel_rfl
theorem pbi_1 (n : Nat) (g : Nat → Nat → AV) (m : Nat) (f : Nat → Nat → AV) (nb lk al : Int) (S : MS) (R : RS) : castSt ((pbU n g m f nb lk al S R).hp) [] (pbU n g m f nb lk al S R) (pbU n g m f nb lk al S R) =
 some ([(0 : Nat) = 0,
 m = m,
 (none : Option Nat) = none,
 (0 : Nat) = 0,
 (0 : Nat) = 0,
 (0 : Nat) = 0,
 (0 : Nat) = 0,
 (0 : Nat) = 0,
 (0 : Nat) = 0,
 nb = nb,
 lk = lk,
 nb = nb,
 (if 1 > lk then 1 else lk) = if 1 > lk then 1 else lk,
 (0 : Nat) = 0,
 (0 : Nat) = 0,
 (0 : Nat) = 0,
 (0 : Nat) = 0,
 nb = nb,
 lk = lk,
 true = true,
 (1 : Nat) ≤ (1 : Nat),
 tabF tab = tabF tab ∧ plainSh (List.map kindOfV tab) = true ∨ ∀ (i : Nat), i < 1 → rowOb (List.map kindOfV tab) 0 (tabF tab i) (tabF tab i),
 true = true,
 n ≤ n,
 wdF (bgW g) = wdF (bgW g) ∧ plainSh wSh = true ∨ ∀ (i : Nat), i < n → rowOb wSh 0 (wdF (bgW g) i) (wdF (bgW g) i),
 true = true,
 m ≤ m,
 f = f ∧ plainSh wSh = true ∨ ∀ (i : Nat), i < m → rowOb wSh 0 (f i) (f i),
 S.st = S.st,
 S.L.c = S.L.c,
 S.L.k = S.L.k,
 S.L.a = S.L.a,
 S.L.f = S.L.f,
 S.L.w = S.L.w,
 S.L.i = S.L.i,
 S.L.d = S.L.d,
 ∀ (k : List Int), S.M k = S.M k,
 (0 : Nat) = 0,
 R.D.n = R.D.n,
 (none : Option Nat) = none,
 R.st = R.st,
 R.L.c = R.L.c,
 R.L.k = R.L.k,
 R.L.a = R.L.a,
 R.L.f = R.L.f,
 R.L.w = R.L.w,
 R.L.i = R.L.i,
 R.L.d = R.L.d,
 false = false,
 R.D.n ≤ R.D.n,
 wdF R.D.W = wdF R.D.W ∧ plainSh wSh = true ∨ ∀ (i : Nat), i < R.D.n → rowOb wSh 0 (wdF R.D.W i) (wdF R.D.W i)]) := by kernel_rfl
attribute [local irreducible] pbN mget memPut dPut dWord pbM pbR bpS bpD
theorem pb_lp (n : Nat) (g : Nat → Nat → AV) (m : Nat) (f : Nat → Nat → AV) (nb lk al : Int) (S : MS) (R : RS) (K : Nat) (hK : K < 399) (hok : PbOk m f nb lk al S R K) (hK0 : al ≠ 0 → 0 < K) (hK1 : al = 0 → K = 0) : pbLP n g m f nb lk al S R (pbN m f nb lk al S R K) := by
  refine loop_rule EBp_ok (I := PJ) (fun i => pbT n g m f nb lk al K S R i) (pbMu K) (pbI K) ?_ (fun ii hi => ?_)
  ·
    refine ⟨PJ.b, [], _, trivial, pbi_1 .., (ob_cons rfl (ob_cons rfl (ob_cons rfl (ob_cons rfl (ob_cons rfl (ob_cons rfl (ob_cons rfl (ob_cons rfl (ob_cons rfl (ob_cons rfl (ob_cons rfl (ob_cons rfl (ob_cons rfl (ob_cons rfl (ob_cons rfl (ob_cons rfl (ob_cons rfl (ob_cons rfl (ob_cons rfl (ob_cons rfl (ob_cons (Nat.le_refl _) (ob_cons (.inl ⟨rfl, rfl⟩) (ob_cons rfl (ob_cons (Nat.le_refl _) (ob_cons (.inl ⟨rfl, rfl⟩) (ob_cons rfl (ob_cons (Nat.le_refl _) (ob_cons (.inl ⟨rfl, rfl⟩) (ob_cons rfl (ob_cons rfl (ob_cons rfl (ob_cons rfl (ob_cons rfl (ob_cons rfl (ob_cons rfl (ob_cons rfl (ob_cons (fun _ => rfl) (ob_cons rfl (ob_cons rfl (ob_cons rfl (ob_cons rfl (ob_cons rfl (ob_cons rfl (ob_cons rfl (ob_cons rfl (ob_cons rfl (ob_cons rfl (ob_cons rfl (ob_cons rfl (ob_cons (Nat.le_refl _) (ob_cons (.inl ⟨rfl, rfl⟩) ob_nil)))))))))))))))))))))))))))))))))))))))))))))))))))⟩
  rcases ii with _ | kk | _
  · by_cases hcc : 0 < m
    ·
      have hd : decide (0 < Int.ofNat m) = true := decide_eq_true (by simp; omega)
      have hb1 : Nat.blt 0 m = true := Nat.ble_eq_true_of_le hcc
      have hb2 : (Nat.blt 0 m && decide ((0 : Int) ≤ 0)) = true := by rw [hb1]; rfl
      have hr0 := hok.r 0 hcc
      have hM := pbM_pos (f := f) S hcc
      have hR := pbR_pos (f := f) R hcc
      have hy : (pbN m f nb lk al S R 0) = pbZ lk al (pbM m f 0 S) (pbR m f 0 R) := pbN_zero ..
      have hbo := hok.both 0 (Nat.zero_le _)
      have hn1 := hok.num1
      have hn2 := hok.num0
      have hw1 := hok.w0
      have hwd := hok.wd
      have hal := hok.ala
      rw [hy] at hbo
      rw [hR] at hn1 hwd
      rw [hM] at hw1 hwd hal
      rw [hM, hR] at hy hbo
      obtain ⟨hq1, ha0, ha16, hah, han⟩ := pb_al hw1 hal
      have hn3 : (rStore R (avInt (f (0 + 0) 0)) (avInt (f (0 + 0) 1)) (avInt (f (0 + 0) 2)) (avInt (f (0 + 0) 3))).D.n ≤ 1000000 := Nat.le_trans hn1 (by decide)
      by_cases hc4 : 4 < mget (mStore S (avInt (f (0 + 0) 0)) (avInt (f (0 + 0) 1)) (avInt (f (0 + 0) 2)) (avInt (f (0 + 0) 3))).M (key 5 0 0)
      ·
        have hz : al ≠ 0 := by have := hah hc4; omega
        have hd1 : (pbN m f nb lk al S R 0).d.at_ = 2 := by rw [hy]; exact if_neg hz
        have hd2 : (pbN m f nb lk al S R 0).d.en = 4 := by rw [hy]; exact if_neg hz
        have hq2 : decide (dWord (rStore R (avInt (f (0 + 0) 0)) (avInt (f (0 + 0) 1)) (avInt (f (0 + 0) 2)) (avInt (f (0 + 0) 3))).D 5 0 0 > 4) = true := by rw [hwd]; exact decide_eq_true hc4
        have hq3 := (hah hc4).symm
        have hq4 : decide (0 ≥ IntKind.i64.wrap (IntKind.i64.wrap (if 4 < mget (mStore S (avInt (f (0 + 0) 0)) (avInt (f (0 + 0) 1)) (avInt (f (0 + 0) 2)) (avInt (f (0 + 0) 3))).M (key 5 0 0) then 4 else mget (mStore S (avInt (f (0 + 0) 0)) (avInt (f (0 + 0) 1)) (avInt (f (0 + 0) 2)) (avInt (f (0 + 0) 3))).M (key 5 0 0)) * 4)) = false := by rw [hq1]; exact decide_eq_false (by omega)
        have hKp := hK0 hz
        refine round_norm (s0 := pbU n g m f nb lk al S R) (T := fun i => pbT n g m f nb lk al K S R i) (i := PJ.b) (PJ.w 0) (pbth_1 n g m f nb lk al S S R R (pbN m f nb lk al S R 0)) (ob_cons rfl (ob_cons rfl (ob_cons rfl (ob_cons rfl (ob_cons rfl (ob_cons rfl (ob_cons rfl (ob_cons rfl (ob_cons rfl (ob_cons rfl (ob_cons ?_ (ob_cons rfl (ob_cons ?_ (ob_cons ?_ (ob_cons ?_ (ob_cons ?_ (ob_cons ?_ (ob_cons rfl (ob_cons ?_ (ob_cons ?_ (ob_cons ?_ (ob_cons ?_ (ob_cons ?_ (ob_cons ?_ (ob_cons rfl (ob_cons rfl (ob_cons rfl (ob_cons rfl (ob_cons rfl (ob_cons (Nat.le_refl _) (ob_cons (.inl ⟨rfl, rfl⟩) (ob_cons rfl (ob_cons (Nat.le_refl _) (ob_cons (.inl ⟨rfl, rfl⟩) (ob_cons rfl (ob_cons (Nat.le_refl _) (ob_cons (.inl ⟨rfl, rfl⟩) (ob_cons ?_ (ob_cons ?_ (ob_cons ?_ (ob_cons ?_ (ob_cons ?_ (ob_cons ?_ (ob_cons ?_ (ob_cons ?_ (ob_cons ?_ (ob_cons rfl (ob_cons ?_ (ob_cons rfl (ob_cons ?_ (ob_cons ?_ (ob_cons ?_ (ob_cons ?_ (ob_cons ?_ (ob_cons ?_ (ob_cons ?_ (ob_cons ?_ (ob_cons rfl (ob_cons ?_ (ob_cons ?_ (ob_cons ?_ (ob_cons ?_ (ob_cons ?_ (ob_cons (Nat.le_refl _) (ob_cons ?_ (ob_cons (Nat.le_refl _) (ob_cons ?_ (ob_cons ?_ (ob_cons ?_ (ob_cons ?_ (ob_cons ?_ ob_nil))))))))))))))))))))))))))))))))))))))))))))))))))))))))))))))))))))))) (by show 0 < K; omega) (by show K + 1 - 0 < K + 2; omega)
        · exact hd1.symm
        · (rw [hy]; rfl)
        · exact hd2.symm
        · (rw [hy]; rfl)
        · (rw [hy]; rfl)
        · with_reducible assumption
        · (rw [hy]; rfl)
        · (rw [hy]; rfl)
        · exact hq1
        · (rw [hy]; rfl)
        · (rw [hy]; rfl)
        · (rw [hy]; rfl)
        · (rw [hy]; rfl)
        · (rw [hy]; rfl)
        · (rw [hy]; rfl)
        · (rw [hy]; rfl)
        · (rw [hy]; rfl)
        · (rw [hy]; rfl)
        · (rw [hy]; rfl)
        · (rw [hy]; rfl)
        · (rw [hy]; exact fun _ => rfl)
        · (rw [hy]; rfl)
        · (rw [hy]; rfl)
        · (rw [hy]; rfl)
        · (rw [hy]; rfl)
        · (rw [hy]; rfl)
        · (rw [hy]; rfl)
        · (rw [hy]; rfl)
        · (rw [hy]; rfl)
        · (rw [hy]; rfl)
        · (rw [hy]; exact Nat.le_refl _)
        · exact .inl ⟨by rw [hy]; rfl, rfl⟩
        · exact hbo
        · exact hq4
        · exact hq2
        · exact hn3
        · with_reducible assumption
        · with_reducible assumption
        · with_reducible assumption
        · with_reducible assumption
        · with_reducible assumption
      · by_cases hz : al = 0
        ·
          have hd2 : (pbN m f nb lk al S R 0).d.en = 0 := by rw [hy]; exact if_pos hz
          have hq2 : decide (dWord (rStore R (avInt (f (0 + 0) 0)) (avInt (f (0 + 0) 1)) (avInt (f (0 + 0) 2)) (avInt (f (0 + 0) 3))).D 5 0 0 > 4) = false := by rw [hwd]; exact decide_eq_false hc4
          have hq3 : IntKind.i64.wrap (4 * IntKind.i64.wrap (dWord (rStore R (avInt (f (0 + 0) 0)) (avInt (f (0 + 0) 1)) (avInt (f (0 + 0) 2)) (avInt (f (0 + 0) 3))).D 5 0 0)) = al := by rw [hwd]; exact (han hc4).1
          have hq4 : decide (0 ≥ IntKind.i64.wrap (IntKind.i64.wrap (if 4 < mget (mStore S (avInt (f (0 + 0) 0)) (avInt (f (0 + 0) 1)) (avInt (f (0 + 0) 2)) (avInt (f (0 + 0) 3))).M (key 5 0 0) then 4 else mget (mStore S (avInt (f (0 + 0) 0)) (avInt (f (0 + 0) 1)) (avInt (f (0 + 0) 2)) (avInt (f (0 + 0) 3))).M (key 5 0 0)) * 4)) = true := by rw [hq1]; exact decide_eq_true (by omega)
          have hq5 : ((0 : Int) == IntKind.i64.wrap (4 * IntKind.i64.wrap (dWord (rStore R (avInt (f (0 + 0) 0)) (avInt (f (0 + 0) 1)) (avInt (f (0 + 0) 2)) (avInt (f (0 + 0) 3))).D 5 0 0))) = true := by rw [hq3]; exact beq_iff_eq.2 hz.symm
          have hKz := hK1 hz
          subst hKz
          refine round_norm (s0 := pbU n g m f nb lk al S R) (T := fun i => pbT n g m f nb lk al 0 S R i) (i := PJ.b) PJ.o (pbtz_1 n g m f nb lk al S S R R (pbN m f nb lk al S R 0)) (ob_cons rfl (ob_cons rfl (ob_cons rfl (ob_cons rfl (ob_cons rfl (ob_cons rfl (ob_cons rfl (ob_cons rfl (ob_cons rfl (ob_cons rfl (ob_cons rfl (ob_cons ?_ (ob_cons ?_ (ob_cons ?_ (ob_cons ?_ (ob_cons ?_ (ob_cons rfl (ob_cons ?_ (ob_cons ?_ (ob_cons ?_ (ob_cons ?_ (ob_cons ?_ (ob_cons ?_ (ob_cons rfl (ob_cons rfl (ob_cons rfl (ob_cons rfl (ob_cons rfl (ob_cons (Nat.le_refl _) (ob_cons (.inl ⟨rfl, rfl⟩) (ob_cons rfl (ob_cons (Nat.le_refl _) (ob_cons (.inl ⟨rfl, rfl⟩) (ob_cons rfl (ob_cons (Nat.le_refl _) (ob_cons (.inl ⟨rfl, rfl⟩) (ob_cons ?_ (ob_cons ?_ (ob_cons ?_ (ob_cons ?_ (ob_cons ?_ (ob_cons ?_ (ob_cons ?_ (ob_cons ?_ (ob_cons ?_ (ob_cons rfl (ob_cons ?_ (ob_cons rfl (ob_cons ?_ (ob_cons ?_ (ob_cons ?_ (ob_cons ?_ (ob_cons ?_ (ob_cons ?_ (ob_cons ?_ (ob_cons ?_ (ob_cons rfl (ob_cons ?_ (ob_cons ?_ (ob_cons ?_ (ob_cons ?_ (ob_cons ?_ (ob_cons ?_ (ob_cons (Nat.le_refl _) (ob_cons ?_ (ob_cons (Nat.le_refl _) (ob_cons ?_ (ob_cons ?_ (ob_cons ?_ (ob_cons ?_ (ob_cons ?_ ob_nil))))))))))))))))))))))))))))))))))))))))))))))))))))))))))))))))))))))) trivial (by show 0 < 0 + 2; omega)
          · (rw [hy]; rfl)
          · exact hd2.symm
          · (rw [hy]; rfl)
          · (rw [hy]; rfl)
          · exact hq3
          · (rw [hy]; rfl)
          · (rw [hy]; rfl)
          · exact hq1
          · (rw [hy]; rfl)
          · (rw [hy]; rfl)
          · (rw [hy]; rfl)
          · (rw [hy]; rfl)
          · (rw [hy]; rfl)
          · (rw [hy]; rfl)
          · (rw [hy]; rfl)
          · (rw [hy]; rfl)
          · (rw [hy]; rfl)
          · (rw [hy]; rfl)
          · (rw [hy]; rfl)
          · (rw [hy]; exact fun _ => rfl)
          · (rw [hy]; rfl)
          · (rw [hy]; rfl)
          · (rw [hy]; rfl)
          · (rw [hy]; rfl)
          · (rw [hy]; rfl)
          · (rw [hy]; rfl)
          · (rw [hy]; rfl)
          · (rw [hy]; rfl)
          · (rw [hy]; rfl)
          · (rw [hy]; exact Nat.le_refl _)
          · exact .inl ⟨by rw [hy]; rfl, rfl⟩
          · exact hbo
          · exact hq4
          · exact hq5
          · exact hq2
          · exact hn3
          · with_reducible assumption
          · with_reducible assumption
          · with_reducible assumption
          · with_reducible assumption
          · with_reducible assumption
        ·
          have hd1 : (pbN m f nb lk al S R 0).d.at_ = 2 := by rw [hy]; exact if_neg hz
          have hd2 : (pbN m f nb lk al S R 0).d.en = 4 := by rw [hy]; exact if_neg hz
          have hq2 : decide (dWord (rStore R (avInt (f (0 + 0) 0)) (avInt (f (0 + 0) 1)) (avInt (f (0 + 0) 2)) (avInt (f (0 + 0) 3))).D 5 0 0 > 4) = false := by rw [hwd]; exact decide_eq_false hc4
          have hq3 : IntKind.i64.wrap (4 * IntKind.i64.wrap (dWord (rStore R (avInt (f (0 + 0) 0)) (avInt (f (0 + 0) 1)) (avInt (f (0 + 0) 2)) (avInt (f (0 + 0) 3))).D 5 0 0)) = al := by rw [hwd]; exact (han hc4).1
          have hq4 : decide (0 ≥ IntKind.i64.wrap (IntKind.i64.wrap (if 4 < mget (mStore S (avInt (f (0 + 0) 0)) (avInt (f (0 + 0) 1)) (avInt (f (0 + 0) 2)) (avInt (f (0 + 0) 3))).M (key 5 0 0) then 4 else mget (mStore S (avInt (f (0 + 0) 0)) (avInt (f (0 + 0) 1)) (avInt (f (0 + 0) 2)) (avInt (f (0 + 0) 3))).M (key 5 0 0)) * 4)) = false := by rw [hq1]; exact decide_eq_false (by omega)
          have hq5 : ((0 : Int) == IntKind.i64.wrap (4 * IntKind.i64.wrap (dWord (rStore R (avInt (f (0 + 0) 0)) (avInt (f (0 + 0) 1)) (avInt (f (0 + 0) 2)) (avInt (f (0 + 0) 3))).D 5 0 0))) = false := by rw [hq3]; exact beq_eq_false_iff_ne.2 (fun e => hz e.symm)
          have hKp := hK0 hz
          refine round_norm (s0 := pbU n g m f nb lk al S R) (T := fun i => pbT n g m f nb lk al K S R i) (i := PJ.b) (PJ.w 0) (pbtn_1 n g m f nb lk al S S R R (pbN m f nb lk al S R 0)) (ob_cons rfl (ob_cons rfl (ob_cons rfl (ob_cons rfl (ob_cons rfl (ob_cons rfl (ob_cons rfl (ob_cons rfl (ob_cons rfl (ob_cons rfl (ob_cons ?_ (ob_cons rfl (ob_cons ?_ (ob_cons ?_ (ob_cons ?_ (ob_cons ?_ (ob_cons ?_ (ob_cons rfl (ob_cons ?_ (ob_cons ?_ (ob_cons ?_ (ob_cons ?_ (ob_cons ?_ (ob_cons ?_ (ob_cons rfl (ob_cons rfl (ob_cons rfl (ob_cons rfl (ob_cons rfl (ob_cons (Nat.le_refl _) (ob_cons (.inl ⟨rfl, rfl⟩) (ob_cons rfl (ob_cons (Nat.le_refl _) (ob_cons (.inl ⟨rfl, rfl⟩) (ob_cons rfl (ob_cons (Nat.le_refl _) (ob_cons (.inl ⟨rfl, rfl⟩) (ob_cons ?_ (ob_cons ?_ (ob_cons ?_ (ob_cons ?_ (ob_cons ?_ (ob_cons ?_ (ob_cons ?_ (ob_cons ?_ (ob_cons ?_ (ob_cons rfl (ob_cons ?_ (ob_cons rfl (ob_cons ?_ (ob_cons ?_ (ob_cons ?_ (ob_cons ?_ (ob_cons ?_ (ob_cons ?_ (ob_cons ?_ (ob_cons ?_ (ob_cons rfl (ob_cons ?_ (ob_cons ?_ (ob_cons ?_ (ob_cons ?_ (ob_cons ?_ (ob_cons ?_ (ob_cons (Nat.le_refl _) (ob_cons ?_ (ob_cons (Nat.le_refl _) (ob_cons ?_ (ob_cons ?_ (ob_cons ?_ (ob_cons ?_ (ob_cons ?_ ob_nil)))))))))))))))))))))))))))))))))))))))))))))))))))))))))))))))))))))))) (by show 0 < K; omega) (by show K + 1 - 0 < K + 2; omega)
          · exact hd1.symm
          · (rw [hy]; rfl)
          · exact hd2.symm
          · (rw [hy]; rfl)
          · (rw [hy]; rfl)
          · exact hq3
          · (rw [hy]; rfl)
          · (rw [hy]; rfl)
          · exact hq1
          · (rw [hy]; rfl)
          · (rw [hy]; rfl)
          · (rw [hy]; rfl)
          · (rw [hy]; rfl)
          · (rw [hy]; rfl)
          · (rw [hy]; rfl)
          · (rw [hy]; rfl)
          · (rw [hy]; rfl)
          · (rw [hy]; rfl)
          · (rw [hy]; rfl)
          · (rw [hy]; rfl)
          · (rw [hy]; exact fun _ => rfl)
          · (rw [hy]; rfl)
          · (rw [hy]; rfl)
          · (rw [hy]; rfl)
          · (rw [hy]; rfl)
          · (rw [hy]; rfl)
          · (rw [hy]; rfl)
          · (rw [hy]; rfl)
          · (rw [hy]; rfl)
          · (rw [hy]; rfl)
          · (rw [hy]; exact Nat.le_refl _)
          · exact .inl ⟨by rw [hy]; rfl, rfl⟩
          · exact hbo
          · exact hq4
          · exact hq5
          · exact hq2
          · exact hn3
          · with_reducible assumption
          · with_reducible assumption
          · with_reducible assumption
          · with_reducible assumption
          · with_reducible assumption
    ·
      have hd : decide (0 < Int.ofNat m) = false := decide_eq_false (by simp; omega)
      have hM := pbM_neg (f := f) S hcc
      have hR := pbR_neg (f := f) R hcc
      have hy : (pbN m f nb lk al S R 0) = pbZ lk al (pbM m f 0 S) (pbR m f 0 R) := pbN_zero ..
      have hbo := hok.both 0 (Nat.zero_le _)
      have hn1 := hok.num1
      have hn2 := hok.num0
      have hw1 := hok.w0
      have hwd := hok.wd
      have hal := hok.ala
      rw [hy] at hbo
      rw [hR] at hn1 hwd
      rw [hM] at hw1 hwd hal
      rw [hM, hR] at hy hbo
      obtain ⟨hq1, ha0, ha16, hah, han⟩ := pb_al hw1 hal
      have hn3 : R.D.n ≤ 1000000 := Nat.le_trans hn1 (by decide)
      by_cases hc4 : 4 < mget S.M (key 5 0 0)
      ·
        have hz : al ≠ 0 := by have := hah hc4; omega
        have hd1 : (pbN m f nb lk al S R 0).d.at_ = 2 := by rw [hy]; exact if_neg hz
        have hd2 : (pbN m f nb lk al S R 0).d.en = 4 := by rw [hy]; exact if_neg hz
        have hq2 : decide (dWord R.D 5 0 0 > 4) = true := by rw [hwd]; exact decide_eq_true hc4
        have hq3 := (hah hc4).symm
        have hq4 : decide (0 ≥ IntKind.i64.wrap (IntKind.i64.wrap (if 4 < mget S.M (key 5 0 0) then 4 else mget S.M (key 5 0 0)) * 4)) = false := by rw [hq1]; exact decide_eq_false (by omega)
        have hKp := hK0 hz
        refine round_norm (s0 := pbU n g m f nb lk al S R) (T := fun i => pbT n g m f nb lk al K S R i) (i := PJ.b) (PJ.w 0) (pbfh_1 n g m f nb lk al S S R R (pbN m f nb lk al S R 0)) (ob_cons rfl (ob_cons rfl (ob_cons rfl (ob_cons rfl (ob_cons rfl (ob_cons rfl (ob_cons rfl (ob_cons rfl (ob_cons rfl (ob_cons rfl (ob_cons ?_ (ob_cons rfl (ob_cons ?_ (ob_cons ?_ (ob_cons ?_ (ob_cons ?_ (ob_cons ?_ (ob_cons rfl (ob_cons ?_ (ob_cons ?_ (ob_cons ?_ (ob_cons ?_ (ob_cons ?_ (ob_cons ?_ (ob_cons rfl (ob_cons rfl (ob_cons rfl (ob_cons rfl (ob_cons rfl (ob_cons (Nat.le_refl _) (ob_cons (.inl ⟨rfl, rfl⟩) (ob_cons rfl (ob_cons (Nat.le_refl _) (ob_cons (.inl ⟨rfl, rfl⟩) (ob_cons rfl (ob_cons (Nat.le_refl _) (ob_cons (.inl ⟨rfl, rfl⟩) (ob_cons ?_ (ob_cons ?_ (ob_cons ?_ (ob_cons ?_ (ob_cons ?_ (ob_cons ?_ (ob_cons ?_ (ob_cons ?_ (ob_cons ?_ (ob_cons rfl (ob_cons ?_ (ob_cons rfl (ob_cons ?_ (ob_cons ?_ (ob_cons ?_ (ob_cons ?_ (ob_cons ?_ (ob_cons ?_ (ob_cons ?_ (ob_cons ?_ (ob_cons rfl (ob_cons ?_ (ob_cons ?_ (ob_cons ?_ (ob_cons ?_ (ob_cons ?_ (ob_cons (Nat.le_refl _) (ob_cons ?_ (ob_cons ?_ ob_nil)))))))))))))))))))))))))))))))))))))))))))))))))))))))))))))))))) (by show 0 < K; omega) (by show K + 1 - 0 < K + 2; omega)
        · exact hd1.symm
        · (rw [hy]; rfl)
        · exact hd2.symm
        · (rw [hy]; rfl)
        · (rw [hy]; rfl)
        · with_reducible assumption
        · (rw [hy]; rfl)
        · (rw [hy]; rfl)
        · with_reducible assumption
        · (rw [hy]; rfl)
        · (rw [hy]; rfl)
        · (rw [hy]; rfl)
        · (rw [hy]; rfl)
        · (rw [hy]; rfl)
        · (rw [hy]; rfl)
        · (rw [hy]; rfl)
        · (rw [hy]; rfl)
        · (rw [hy]; rfl)
        · (rw [hy]; rfl)
        · (rw [hy]; rfl)
        · (rw [hy]; exact fun _ => rfl)
        · (rw [hy]; rfl)
        · (rw [hy]; rfl)
        · (rw [hy]; rfl)
        · (rw [hy]; rfl)
        · (rw [hy]; rfl)
        · (rw [hy]; rfl)
        · (rw [hy]; rfl)
        · (rw [hy]; rfl)
        · (rw [hy]; rfl)
        · (rw [hy]; exact Nat.le_refl _)
        · exact .inl ⟨by rw [hy]; rfl, rfl⟩
        · exact hbo
        · with_reducible assumption
        · exact hq2
        · with_reducible assumption
        · with_reducible assumption
      · by_cases hz : al = 0
        ·
          have hd2 : (pbN m f nb lk al S R 0).d.en = 0 := by rw [hy]; exact if_pos hz
          have hq2 : decide (dWord R.D 5 0 0 > 4) = false := by rw [hwd]; exact decide_eq_false hc4
          have hq3 : IntKind.i64.wrap (4 * IntKind.i64.wrap (dWord R.D 5 0 0)) = al := by rw [hwd]; exact (han hc4).1
          have hq4 : decide (0 ≥ IntKind.i64.wrap (IntKind.i64.wrap (if 4 < mget S.M (key 5 0 0) then 4 else mget S.M (key 5 0 0)) * 4)) = true := by rw [hq1]; exact decide_eq_true (by omega)
          have hq5 : ((0 : Int) == IntKind.i64.wrap (4 * IntKind.i64.wrap (dWord R.D 5 0 0))) = true := by rw [hq3]; exact beq_iff_eq.2 hz.symm
          have hKz := hK1 hz
          subst hKz
          refine round_norm (s0 := pbU n g m f nb lk al S R) (T := fun i => pbT n g m f nb lk al 0 S R i) (i := PJ.b) PJ.o (pbfz_1 n g m f nb lk al S S R R (pbN m f nb lk al S R 0)) (ob_cons rfl (ob_cons rfl (ob_cons rfl (ob_cons rfl (ob_cons rfl (ob_cons rfl (ob_cons rfl (ob_cons rfl (ob_cons rfl (ob_cons rfl (ob_cons rfl (ob_cons ?_ (ob_cons ?_ (ob_cons ?_ (ob_cons ?_ (ob_cons ?_ (ob_cons rfl (ob_cons ?_ (ob_cons ?_ (ob_cons ?_ (ob_cons ?_ (ob_cons ?_ (ob_cons ?_ (ob_cons rfl (ob_cons rfl (ob_cons rfl (ob_cons rfl (ob_cons rfl (ob_cons (Nat.le_refl _) (ob_cons (.inl ⟨rfl, rfl⟩) (ob_cons rfl (ob_cons (Nat.le_refl _) (ob_cons (.inl ⟨rfl, rfl⟩) (ob_cons rfl (ob_cons (Nat.le_refl _) (ob_cons (.inl ⟨rfl, rfl⟩) (ob_cons ?_ (ob_cons ?_ (ob_cons ?_ (ob_cons ?_ (ob_cons ?_ (ob_cons ?_ (ob_cons ?_ (ob_cons ?_ (ob_cons ?_ (ob_cons rfl (ob_cons ?_ (ob_cons rfl (ob_cons ?_ (ob_cons ?_ (ob_cons ?_ (ob_cons ?_ (ob_cons ?_ (ob_cons ?_ (ob_cons ?_ (ob_cons ?_ (ob_cons rfl (ob_cons ?_ (ob_cons ?_ (ob_cons ?_ (ob_cons ?_ (ob_cons ?_ (ob_cons ?_ (ob_cons (Nat.le_refl _) (ob_cons ?_ (ob_cons ?_ ob_nil)))))))))))))))))))))))))))))))))))))))))))))))))))))))))))))))))) trivial (by show 0 < 0 + 2; omega)
          · (rw [hy]; rfl)
          · exact hd2.symm
          · (rw [hy]; rfl)
          · (rw [hy]; rfl)
          · exact hq3
          · (rw [hy]; rfl)
          · (rw [hy]; rfl)
          · with_reducible assumption
          · (rw [hy]; rfl)
          · (rw [hy]; rfl)
          · (rw [hy]; rfl)
          · (rw [hy]; rfl)
          · (rw [hy]; rfl)
          · (rw [hy]; rfl)
          · (rw [hy]; rfl)
          · (rw [hy]; rfl)
          · (rw [hy]; rfl)
          · (rw [hy]; rfl)
          · (rw [hy]; rfl)
          · (rw [hy]; exact fun _ => rfl)
          · (rw [hy]; rfl)
          · (rw [hy]; rfl)
          · (rw [hy]; rfl)
          · (rw [hy]; rfl)
          · (rw [hy]; rfl)
          · (rw [hy]; rfl)
          · (rw [hy]; rfl)
          · (rw [hy]; rfl)
          · (rw [hy]; rfl)
          · (rw [hy]; exact Nat.le_refl _)
          · exact .inl ⟨by rw [hy]; rfl, rfl⟩
          · exact hbo
          · with_reducible assumption
          · exact hq5
          · exact hq2
          · with_reducible assumption
          · with_reducible assumption
        ·
          have hd1 : (pbN m f nb lk al S R 0).d.at_ = 2 := by rw [hy]; exact if_neg hz
          have hd2 : (pbN m f nb lk al S R 0).d.en = 4 := by rw [hy]; exact if_neg hz
          have hq2 : decide (dWord R.D 5 0 0 > 4) = false := by rw [hwd]; exact decide_eq_false hc4
          have hq3 : IntKind.i64.wrap (4 * IntKind.i64.wrap (dWord R.D 5 0 0)) = al := by rw [hwd]; exact (han hc4).1
          have hq4 : decide (0 ≥ IntKind.i64.wrap (IntKind.i64.wrap (if 4 < mget S.M (key 5 0 0) then 4 else mget S.M (key 5 0 0)) * 4)) = false := by rw [hq1]; exact decide_eq_false (by omega)
          have hq5 : ((0 : Int) == IntKind.i64.wrap (4 * IntKind.i64.wrap (dWord R.D 5 0 0))) = false := by rw [hq3]; exact beq_eq_false_iff_ne.2 (fun e => hz e.symm)
          have hKp := hK0 hz
          refine round_norm (s0 := pbU n g m f nb lk al S R) (T := fun i => pbT n g m f nb lk al K S R i) (i := PJ.b) (PJ.w 0) (pbfn_1 n g m f nb lk al S S R R (pbN m f nb lk al S R 0)) (ob_cons rfl (ob_cons rfl (ob_cons rfl (ob_cons rfl (ob_cons rfl (ob_cons rfl (ob_cons rfl (ob_cons rfl (ob_cons rfl (ob_cons rfl (ob_cons ?_ (ob_cons rfl (ob_cons ?_ (ob_cons ?_ (ob_cons ?_ (ob_cons ?_ (ob_cons ?_ (ob_cons rfl (ob_cons ?_ (ob_cons ?_ (ob_cons ?_ (ob_cons ?_ (ob_cons ?_ (ob_cons ?_ (ob_cons rfl (ob_cons rfl (ob_cons rfl (ob_cons rfl (ob_cons rfl (ob_cons (Nat.le_refl _) (ob_cons (.inl ⟨rfl, rfl⟩) (ob_cons rfl (ob_cons (Nat.le_refl _) (ob_cons (.inl ⟨rfl, rfl⟩) (ob_cons rfl (ob_cons (Nat.le_refl _) (ob_cons (.inl ⟨rfl, rfl⟩) (ob_cons ?_ (ob_cons ?_ (ob_cons ?_ (ob_cons ?_ (ob_cons ?_ (ob_cons ?_ (ob_cons ?_ (ob_cons ?_ (ob_cons ?_ (ob_cons rfl (ob_cons ?_ (ob_cons rfl (ob_cons ?_ (ob_cons ?_ (ob_cons ?_ (ob_cons ?_ (ob_cons ?_ (ob_cons ?_ (ob_cons ?_ (ob_cons ?_ (ob_cons rfl (ob_cons ?_ (ob_cons ?_ (ob_cons ?_ (ob_cons ?_ (ob_cons ?_ (ob_cons ?_ (ob_cons (Nat.le_refl _) (ob_cons ?_ (ob_cons ?_ ob_nil))))))))))))))))))))))))))))))))))))))))))))))))))))))))))))))))))) (by show 0 < K; omega) (by show K + 1 - 0 < K + 2; omega)
          · exact hd1.symm
          · (rw [hy]; rfl)
          · exact hd2.symm
          · (rw [hy]; rfl)
          · (rw [hy]; rfl)
          · exact hq3
          · (rw [hy]; rfl)
          · (rw [hy]; rfl)
          · with_reducible assumption
          · (rw [hy]; rfl)
          · (rw [hy]; rfl)
          · (rw [hy]; rfl)
          · (rw [hy]; rfl)
          · (rw [hy]; rfl)
          · (rw [hy]; rfl)
          · (rw [hy]; rfl)
          · (rw [hy]; rfl)
          · (rw [hy]; rfl)
          · (rw [hy]; rfl)
          · (rw [hy]; rfl)
          · (rw [hy]; exact fun _ => rfl)
          · (rw [hy]; rfl)
          · (rw [hy]; rfl)
          · (rw [hy]; rfl)
          · (rw [hy]; rfl)
          · (rw [hy]; rfl)
          · (rw [hy]; rfl)
          · (rw [hy]; rfl)
          · (rw [hy]; rfl)
          · (rw [hy]; rfl)
          · (rw [hy]; exact Nat.le_refl _)
          · exact .inl ⟨by rw [hy]; rfl, rfl⟩
          · exact hbo
          · with_reducible assumption
          · exact hq5
          · exact hq2
          · with_reducible assumption
          · with_reducible assumption
  · have hk : kk < K := hi
    have hi2 : decide (Int.ofNat (kk + 1) < (400 : Int)) = true := decide_eq_true (by simp; omega)
    have hwi : IntKind.i64.wrap (Int.ofNat (kk + 1) + 1) = Int.ofNat (kk + 1 + 1) := wrap_nat64 _ (by simp; omega) (by simp; omega)
    have hpre := hok.pre kk hk
    have hprd := hok.prd kk hk
    have hdp : decide ((pbN m f nb lk al S R kk).d.at_ > 0) = true := decide_eq_true (Int.lt_of_lt_of_le (by decide) (show (2 : Int) ≤ (pbN m f nb lk al S R kk).d.at_ from hprd.a0.1))
    have hbo := hok.both (kk + 1) hk
    have hn1 := (hok.num (kk + 1) (by omega)).1
    have hn2 := (hok.num kk (by omega)).2
    have hy := pbN_succ m f nb lk al S R kk
    rw [hy] at hbo
    rw [Nat.add_sub_cancel] at hn1
    by_cases hcc : kk + 1 < m
    ·
      have hd : decide (Int.ofNat (kk + 1) < Int.ofNat m) = true := decide_eq_true (by simp; omega)
      have hb2 : (Nat.blt (kk + 1) m && decide (0 ≤ Int.ofNat (kk + 1))) = true := by rw [Bool.and_eq_true]; exact ⟨Nat.ble_eq_true_of_le hcc, decide_eq_true (show (0 : Int) ≤ Int.ofNat (kk + 1) from Int.natCast_nonneg _)⟩
      have hb1 : Nat.blt (0 + (kk + 1)) m = true := by rw [Nat.zero_add]; exact Nat.ble_eq_true_of_le hcc
      have hr0 : 0 ≤ avInt (f (0 + (kk + 1)) 0) := by rw [Nat.zero_add]; exact hok.r (kk + 1) hcc
      have hM := pbM_pos (f := f) (pbN m f nb lk al S R kk).S hcc
      have hR := pbR_pos (f := f) (pbN m f nb lk al S R kk).R hcc
      rw [hM, hR] at hy hbo
      rw [hR] at hprd hn1
      by_cases hl : kk + 1 = K
      · subst hl
        obtain ⟨hon, hdon, hge, hgw⟩ := hok.ov kk rfl
        rw [hy] at hon hdon hge hgw
        have hq1 := bneF hgw
        have hq2 := bneF hge
        refine round_norm (s0 := pbU n g m f nb lk al S R) (T := fun i => pbT n g m f nb lk al (kk + 1) S R i) (i := PJ.w kk) PJ.o (pbwto_1 n g m f nb lk al kk S R (pbN m f nb lk al S R kk) (pbN m f nb lk al S R (kk + 1))) (ob_cons rfl (ob_cons rfl (ob_cons rfl (ob_cons rfl (ob_cons rfl (ob_cons rfl (ob_cons rfl (ob_cons rfl (ob_cons rfl (ob_cons ?_ (ob_cons rfl (ob_cons ?_ (ob_cons ?_ (ob_cons ?_ (ob_cons ?_ (ob_cons rfl (ob_cons rfl (ob_cons ?_ (ob_cons ?_ (ob_cons rfl (ob_cons ?_ (ob_cons ?_ (ob_cons ?_ (ob_cons rfl (ob_cons rfl (ob_cons rfl (ob_cons rfl (ob_cons rfl (ob_cons (Nat.le_refl _) (ob_cons (.inl ⟨rfl, rfl⟩) (ob_cons rfl (ob_cons (Nat.le_refl _) (ob_cons (.inl ⟨rfl, rfl⟩) (ob_cons rfl (ob_cons (Nat.le_refl _) (ob_cons (.inl ⟨rfl, rfl⟩) (ob_cons ?_ (ob_cons ?_ (ob_cons ?_ (ob_cons ?_ (ob_cons ?_ (ob_cons ?_ (ob_cons ?_ (ob_cons ?_ (ob_cons ?_ (ob_cons rfl (ob_cons ?_ (ob_cons rfl (ob_cons ?_ (ob_cons ?_ (ob_cons ?_ (ob_cons ?_ (ob_cons ?_ (ob_cons ?_ (ob_cons ?_ (ob_cons ?_ (ob_cons rfl (ob_cons ?_ (ob_cons ?_ (ob_cons ?_ (ob_cons ?_ (ob_cons ?_ (ob_cons rfl (ob_cons rfl (ob_cons rfl (ob_cons ?_ (ob_cons ?_ (ob_cons ?_ (ob_cons ?_ (ob_cons (Nat.le_refl _) (ob_cons ?_ (ob_cons ?_ (ob_cons ?_ (ob_cons ?_ (ob_cons ?_ (ob_cons ?_ (ob_cons ?_ ob_nil))))))))))))))))))))))))))))))))))))))))))))))))))))))))))))))))))))))))))))) trivial (by show 0 < kk + 1 + 1 - kk; omega)
        · with_reducible assumption
        · (rw [hy]; rfl)
        · (rw [hy]; rfl)
        · (rw [hy]; rfl)
        · (rw [hy]; rfl)
        · (rw [hy]; rfl)
        · (rw [hy]; rfl)
        · (rw [hy]; rfl)
        · (rw [hy]; rfl)
        · (rw [hy]; rfl)
        · (rw [hy]; rfl)
        · (rw [hy]; rfl)
        · (rw [hy]; rfl)
        · (rw [hy]; rfl)
        · (rw [hy]; rfl)
        · (rw [hy]; rfl)
        · (rw [hy]; rfl)
        · (rw [hy]; rfl)
        · (rw [hy]; exact fun _ => rfl)
        · (rw [hy]; rfl)
        · (rw [hy]; rfl)
        · (rw [hy]; rfl)
        · (rw [hy]; rfl)
        · (rw [hy]; rfl)
        · (rw [hy]; rfl)
        · (rw [hy]; rfl)
        · (rw [hy]; rfl)
        · (rw [hy]; rfl)
        · (rw [hy]; exact Nat.le_refl _)
        · exact .inl ⟨by rw [hy]; rfl, rfl⟩
        · exact hbo
        · exact hq1
        · exact hq2
        · with_reducible assumption
        · exact hon
        · exact hprd
        · exact hdon
        · with_reducible assumption
        · with_reducible assumption
        · with_reducible assumption
        · with_reducible assumption
        · with_reducible assumption
        · with_reducible assumption
        · with_reducible assumption
      ·
        obtain ⟨hon, hdon, hg0, hg4, hgw⟩ := hok.go kk (by omega)
        rw [hy] at hon hdon hg0 hg4 hgw
        have hq1 := bneF hgw
        have hq2 := bneF hg4.symm
        have hq3 := eqFa hg0
        have hq4 := eqFb hg0
        refine round_norm (s0 := pbU n g m f nb lk al S R) (T := fun i => pbT n g m f nb lk al K S R i) (i := PJ.w kk) (PJ.w (kk + 1)) (pbwtc_1 n g m f nb lk al kk S R (pbN m f nb lk al S R kk) (pbN m f nb lk al S R (kk + 1))) (ob_cons rfl (ob_cons rfl (ob_cons rfl (ob_cons rfl (ob_cons rfl (ob_cons rfl (ob_cons rfl (ob_cons rfl (ob_cons rfl (ob_cons ?_ (ob_cons ?_ (ob_cons rfl (ob_cons ?_ (ob_cons ?_ (ob_cons ?_ (ob_cons ?_ (ob_cons rfl (ob_cons rfl (ob_cons ?_ (ob_cons ?_ (ob_cons rfl (ob_cons ?_ (ob_cons ?_ (ob_cons ?_ (ob_cons rfl (ob_cons rfl (ob_cons rfl (ob_cons rfl (ob_cons rfl (ob_cons (Nat.le_refl _) (ob_cons (.inl ⟨rfl, rfl⟩) (ob_cons rfl (ob_cons (Nat.le_refl _) (ob_cons (.inl ⟨rfl, rfl⟩) (ob_cons rfl (ob_cons (Nat.le_refl _) (ob_cons (.inl ⟨rfl, rfl⟩) (ob_cons ?_ (ob_cons ?_ (ob_cons ?_ (ob_cons ?_ (ob_cons ?_ (ob_cons ?_ (ob_cons ?_ (ob_cons ?_ (ob_cons ?_ (ob_cons rfl (ob_cons ?_ (ob_cons rfl (ob_cons ?_ (ob_cons ?_ (ob_cons ?_ (ob_cons ?_ (ob_cons ?_ (ob_cons ?_ (ob_cons ?_ (ob_cons ?_ (ob_cons rfl (ob_cons ?_ (ob_cons ?_ (ob_cons ?_ (ob_cons ?_ (ob_cons ?_ (ob_cons ?_ (ob_cons ?_ (ob_cons rfl (ob_cons rfl (ob_cons rfl (ob_cons ?_ (ob_cons ?_ (ob_cons ?_ (ob_cons ?_ (ob_cons (Nat.le_refl _) (ob_cons ?_ (ob_cons ?_ (ob_cons ?_ (ob_cons ?_ (ob_cons ?_ (ob_cons ?_ (ob_cons ?_ ob_nil)))))))))))))))))))))))))))))))))))))))))))))))))))))))))))))))))))))))))))))))) (by show kk + 1 < K; omega) (by show K + 1 - (kk + 1) < K + 1 - kk; omega)
        · with_reducible assumption
        · (rw [hy]; rfl)
        · (rw [hy]; rfl)
        · (rw [hy]; rfl)
        · (rw [hy]; rfl)
        · (rw [hy]; rfl)
        · (rw [hy]; rfl)
        · (rw [hy]; rfl)
        · (rw [hy]; rfl)
        · (rw [hy]; rfl)
        · (rw [hy]; rfl)
        · (rw [hy]; rfl)
        · (rw [hy]; rfl)
        · (rw [hy]; rfl)
        · (rw [hy]; rfl)
        · (rw [hy]; rfl)
        · (rw [hy]; rfl)
        · (rw [hy]; rfl)
        · (rw [hy]; rfl)
        · (rw [hy]; exact fun _ => rfl)
        · (rw [hy]; rfl)
        · (rw [hy]; rfl)
        · (rw [hy]; rfl)
        · (rw [hy]; rfl)
        · (rw [hy]; rfl)
        · (rw [hy]; rfl)
        · (rw [hy]; rfl)
        · (rw [hy]; rfl)
        · (rw [hy]; rfl)
        · (rw [hy]; exact Nat.le_refl _)
        · exact .inl ⟨by rw [hy]; rfl, rfl⟩
        · exact hbo
        · exact hq1
        · exact hq2
        · exact hq3
        · exact hq3
        · with_reducible assumption
        · exact hon
        · exact hprd
        · exact hdon
        · with_reducible assumption
        · with_reducible assumption
        · with_reducible assumption
        · with_reducible assumption
        · with_reducible assumption
        · with_reducible assumption
        · with_reducible assumption
    ·
      have hd : decide (Int.ofNat (kk + 1) < Int.ofNat m) = false := decide_eq_false (by simp; omega)
      have hM := pbM_neg (f := f) (pbN m f nb lk al S R kk).S hcc
      have hR := pbR_neg (f := f) (pbN m f nb lk al S R kk).R hcc
      rw [hM, hR] at hy hbo
      rw [hR] at hprd hn1
      by_cases hl : kk + 1 = K
      · subst hl
        obtain ⟨hon, hdon, hge, hgw⟩ := hok.ov kk rfl
        rw [hy] at hon hdon hge hgw
        have hq1 := bneF hgw
        have hq2 := bneF hge
        refine round_norm (s0 := pbU n g m f nb lk al S R) (T := fun i => pbT n g m f nb lk al (kk + 1) S R i) (i := PJ.w kk) PJ.o (pbwfo_1 n g m f nb lk al kk S R (pbN m f nb lk al S R kk) (pbN m f nb lk al S R (kk + 1))) (ob_cons rfl (ob_cons rfl (ob_cons rfl (ob_cons rfl (ob_cons rfl (ob_cons rfl (ob_cons rfl (ob_cons rfl (ob_cons rfl (ob_cons ?_ (ob_cons rfl (ob_cons ?_ (ob_cons ?_ (ob_cons ?_ (ob_cons ?_ (ob_cons rfl (ob_cons rfl (ob_cons ?_ (ob_cons ?_ (ob_cons rfl (ob_cons ?_ (ob_cons ?_ (ob_cons ?_ (ob_cons rfl (ob_cons rfl (ob_cons rfl (ob_cons rfl (ob_cons rfl (ob_cons (Nat.le_refl _) (ob_cons (.inl ⟨rfl, rfl⟩) (ob_cons rfl (ob_cons (Nat.le_refl _) (ob_cons (.inl ⟨rfl, rfl⟩) (ob_cons rfl (ob_cons (Nat.le_refl _) (ob_cons (.inl ⟨rfl, rfl⟩) (ob_cons ?_ (ob_cons ?_ (ob_cons ?_ (ob_cons ?_ (ob_cons ?_ (ob_cons ?_ (ob_cons ?_ (ob_cons ?_ (ob_cons ?_ (ob_cons rfl (ob_cons ?_ (ob_cons rfl (ob_cons ?_ (ob_cons ?_ (ob_cons ?_ (ob_cons ?_ (ob_cons ?_ (ob_cons ?_ (ob_cons ?_ (ob_cons ?_ (ob_cons rfl (ob_cons ?_ (ob_cons ?_ (ob_cons ?_ (ob_cons ?_ (ob_cons ?_ (ob_cons rfl (ob_cons rfl (ob_cons rfl (ob_cons ?_ (ob_cons ?_ (ob_cons ?_ (ob_cons ?_ (ob_cons ?_ (ob_cons ?_ (ob_cons ?_ ob_nil)))))))))))))))))))))))))))))))))))))))))))))))))))))))))))))))))))))))) trivial (by show 0 < kk + 1 + 1 - kk; omega)
        · with_reducible assumption
        · (rw [hy]; rfl)
        · (rw [hy]; rfl)
        · (rw [hy]; rfl)
        · (rw [hy]; rfl)
        · (rw [hy]; rfl)
        · (rw [hy]; rfl)
        · (rw [hy]; rfl)
        · (rw [hy]; rfl)
        · (rw [hy]; rfl)
        · (rw [hy]; rfl)
        · (rw [hy]; rfl)
        · (rw [hy]; rfl)
        · (rw [hy]; rfl)
        · (rw [hy]; rfl)
        · (rw [hy]; rfl)
        · (rw [hy]; rfl)
        · (rw [hy]; rfl)
        · (rw [hy]; exact fun _ => rfl)
        · (rw [hy]; rfl)
        · (rw [hy]; rfl)
        · (rw [hy]; rfl)
        · (rw [hy]; rfl)
        · (rw [hy]; rfl)
        · (rw [hy]; rfl)
        · (rw [hy]; rfl)
        · (rw [hy]; rfl)
        · (rw [hy]; rfl)
        · (rw [hy]; exact Nat.le_refl _)
        · exact .inl ⟨by rw [hy]; rfl, rfl⟩
        · exact hbo
        · exact hq1
        · exact hq2
        · with_reducible assumption
        · exact hon
        · with_reducible assumption
        · exact hdon
        · with_reducible assumption
        · with_reducible assumption
        · with_reducible assumption
      ·
        obtain ⟨hon, hdon, hg0, hg4, hgw⟩ := hok.go kk (by omega)
        rw [hy] at hon hdon hg0 hg4 hgw
        have hq1 := bneF hgw
        have hq2 := bneF hg4.symm
        have hq3 := eqFa hg0
        have hq4 := eqFb hg0
        refine round_norm (s0 := pbU n g m f nb lk al S R) (T := fun i => pbT n g m f nb lk al K S R i) (i := PJ.w kk) (PJ.w (kk + 1)) (pbwfc_1 n g m f nb lk al kk S R (pbN m f nb lk al S R kk) (pbN m f nb lk al S R (kk + 1))) (ob_cons rfl (ob_cons rfl (ob_cons rfl (ob_cons rfl (ob_cons rfl (ob_cons rfl (ob_cons rfl (ob_cons rfl (ob_cons rfl (ob_cons ?_ (ob_cons ?_ (ob_cons rfl (ob_cons ?_ (ob_cons ?_ (ob_cons ?_ (ob_cons ?_ (ob_cons rfl (ob_cons rfl (ob_cons ?_ (ob_cons ?_ (ob_cons rfl (ob_cons ?_ (ob_cons ?_ (ob_cons ?_ (ob_cons rfl (ob_cons rfl (ob_cons rfl (ob_cons rfl (ob_cons rfl (ob_cons (Nat.le_refl _) (ob_cons (.inl ⟨rfl, rfl⟩) (ob_cons rfl (ob_cons (Nat.le_refl _) (ob_cons (.inl ⟨rfl, rfl⟩) (ob_cons rfl (ob_cons (Nat.le_refl _) (ob_cons (.inl ⟨rfl, rfl⟩) (ob_cons ?_ (ob_cons ?_ (ob_cons ?_ (ob_cons ?_ (ob_cons ?_ (ob_cons ?_ (ob_cons ?_ (ob_cons ?_ (ob_cons ?_ (ob_cons rfl (ob_cons ?_ (ob_cons rfl (ob_cons ?_ (ob_cons ?_ (ob_cons ?_ (ob_cons ?_ (ob_cons ?_ (ob_cons ?_ (ob_cons ?_ (ob_cons ?_ (ob_cons rfl (ob_cons ?_ (ob_cons ?_ (ob_cons ?_ (ob_cons ?_ (ob_cons ?_ (ob_cons ?_ (ob_cons ?_ (ob_cons rfl (ob_cons rfl (ob_cons rfl (ob_cons ?_ (ob_cons ?_ (ob_cons ?_ (ob_cons ?_ (ob_cons ?_ (ob_cons ?_ (ob_cons ?_ ob_nil))))))))))))))))))))))))))))))))))))))))))))))))))))))))))))))))))))))))))) (by show kk + 1 < K; omega) (by show K + 1 - (kk + 1) < K + 1 - kk; omega)
        · with_reducible assumption
        · (rw [hy]; rfl)
        · (rw [hy]; rfl)
        · (rw [hy]; rfl)
        · (rw [hy]; rfl)
        · (rw [hy]; rfl)
        · (rw [hy]; rfl)
        · (rw [hy]; rfl)
        · (rw [hy]; rfl)
        · (rw [hy]; rfl)
        · (rw [hy]; rfl)
        · (rw [hy]; rfl)
        · (rw [hy]; rfl)
        · (rw [hy]; rfl)
        · (rw [hy]; rfl)
        · (rw [hy]; rfl)
        · (rw [hy]; rfl)
        · (rw [hy]; rfl)
        · (rw [hy]; rfl)
        · (rw [hy]; exact fun _ => rfl)
        · (rw [hy]; rfl)
        · (rw [hy]; rfl)
        · (rw [hy]; rfl)
        · (rw [hy]; rfl)
        · (rw [hy]; rfl)
        · (rw [hy]; rfl)
        · (rw [hy]; rfl)
        · (rw [hy]; rfl)
        · (rw [hy]; rfl)
        · (rw [hy]; exact Nat.le_refl _)
        · exact .inl ⟨by rw [hy]; rfl, rfl⟩
        · exact hbo
        · exact hq1
        · exact hq2
        · exact hq3
        · exact hq3
        · with_reducible assumption
        · exact hon
        · with_reducible assumption
        · exact hdon
        · with_reducible assumption
        · with_reducible assumption
        · with_reducible assumption
  · have hi2 : decide (Int.ofNat (K + 1) < (400 : Int)) = true := decide_eq_true (by simp; omega)
    refine round_exit (s0 := pbU n g m f nb lk al S R) (T := fun i => pbT n g m f nb lk al K S R i) (i := PJ.o) (pbx_1 n g m f nb lk al K S R (pbN m f nb lk al S R K) (pbN m f nb lk al S R K)) (by simp) (ob_cons rfl (ob_cons rfl (ob_cons rfl (ob_cons rfl (ob_cons rfl (ob_cons rfl (ob_cons rfl (ob_cons rfl (ob_cons rfl (ob_cons rfl (ob_cons rfl (ob_cons rfl (ob_cons rfl (ob_cons rfl (ob_cons rfl (ob_cons rfl (ob_cons rfl (ob_cons rfl (ob_cons rfl (ob_cons rfl (ob_cons rfl (ob_cons rfl (ob_cons rfl (ob_cons rfl (ob_cons (Nat.le_refl _) (ob_cons (.inl ⟨rfl, rfl⟩) (ob_cons rfl (ob_cons (Nat.le_refl _) (ob_cons (.inl ⟨rfl, rfl⟩) (ob_cons rfl (ob_cons (Nat.le_refl _) (ob_cons (.inl ⟨rfl, rfl⟩) (ob_cons rfl (ob_cons rfl (ob_cons rfl (ob_cons rfl (ob_cons rfl (ob_cons rfl (ob_cons rfl (ob_cons rfl (ob_cons (fun _ => rfl) (ob_cons rfl (ob_cons rfl (ob_cons rfl (ob_cons rfl (ob_cons rfl (ob_cons rfl (ob_cons rfl (ob_cons rfl (ob_cons rfl (ob_cons rfl (ob_cons rfl (ob_cons rfl (ob_cons (Nat.le_refl _) (ob_cons (.inl ⟨rfl, rfl⟩) (ob_cons ?_ ob_nil))))))))))))))))))))))))))))))))))))))))))))))))))))))))
    · exact hi2

end Go.Proofs.YtmlfmmnnbdlabaaDoor
