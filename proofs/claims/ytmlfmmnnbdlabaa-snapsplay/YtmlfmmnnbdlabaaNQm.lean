/-
  SnapsPlay: the loop.
-/
import Derived.Test.YtmlfmmnnbdlabaaNQmDef
set_option linter.unusedSimpArgs false
set_option linter.unusedVariables false
namespace Go.Proofs.Ytmlfmmnnbdlabaa
open Go.Ev
theorem ppbtn_1 (n : Nat) (g : Nat → Nat → AV) (m : Nat) (f : Nat → Nat → AV) (al : Nat) (b : Int) (S0 S : MS) (R0 R : RS) (y2 : PS) : roundB ESp 4000 ppL ((ppU n g m f al b S0 R0).hp) [(11, Src.nil 10), (10, Src.nm 1841226025467674114022254335715388246128357676132655974603635929728802003786330681340677261423465945541892882936992354623472588743498306403361783545860), (12, Src.nm 1022934564967544334379121780258624735067700639388457746713528552530041811376460798401021903851845049109652088789862522190380392670589185329165164871685)] (ppU n g m f al b S R) [Hint.b true, Hint.b false, Hint.node [(3, [Hint.b false])]] (ppW n g m f al b 0 y2) =
 some (Ex.norm, [(0 : Nat) = 0,
 m = m,
 (none : Option Nat) = none,
 (0 : Nat) = 0,
 (0 : Nat) = 0,
 (0 : Nat) = 0,
 (0 : Nat) = 0,
 (0 : Nat) = 0,
 (0 : Nat) = 0,
 (1 : Int) = 1,
 (1 : Int) = 1,
 (0 : Nat) = 0,
 0 = rdN y2.fl y2.ta,
 (none : Option Nat) = none,
 rbN (dPut (dOf R.D.n (wdF R.D.W)) (avInt (f 0 0)) (avInt (f 0 1)) (avInt (f 0 2)) (avInt (f 0 3))).n (wdF (dPut (dOf R.D.n (wdF R.D.W)) (avInt (f 0 0)) (avInt (f 0 1)) (avInt (f 0 2)) (avInt (f 0 3))).W) = b,
 0 = y2.fl,
 rdN y2.fl y2.ta = 0,
 (0 : Nat) = 0,
 (0 : Nat) = 0,
 (0 : Nat) = 0,
 (tbN (memPut S.M (avInt (f 0 0)) (avInt (f 0 1)) (avInt (f 0 2)) (avInt (f 0 3)))).toNat = al,
 some (tbN (memPut S.M (avInt (f 0 0)) (avInt (f 0 1)) (avInt (f 0 2)) (avInt (f 0 3)))).toNat = some al,
 (0 : Int) = 0,
 0 = y2.ta,
 0 = y2.fl,
 tbN (memPut S.M (avInt (f 0 0)) (avInt (f 0 1)) (avInt (f 0 2)) (avInt (f 0 3))) = Int.ofNat al,
 false = false,
 al ≤ (tbN (memPut S.M (avInt (f 0 0)) (avInt (f 0 1)) (avInt (f 0 2)) (avInt (f 0 3)))).toNat,
 y2.F = tF0 ∧ plainSh tSh = true ∨ ∀ (i : Nat), i < al → rowOb tSh 0 (tF0 i) (y2.F i),
 (0 : Nat) = 0,
 (0 : Nat) = 0,
 (0 : Nat) = 0,
 (0 : Nat) = 0,
 true = true,
 n ≤ n,
 wdF (bgW g) = wdF (bgW g) ∧ plainSh wSh = true ∨ ∀ (i : Nat), i < n → rowOb wSh 0 (wdF (bgW g) i) (wdF (bgW g) i),
 true = true,
 m ≤ m,
 f = f ∧ plainSh wSh = true ∨ ∀ (i : Nat), i < m → rowOb wSh 0 (f i) (f i),
 IntKind.i64.wrap (IntKind.i64.wrap (S.st + 1) + 1) = y2.S.st,
 1 = y2.S.L.c,
 5 = y2.S.L.k,
 0 = y2.S.L.a,
 0 = y2.S.L.f,
 mget (memPut S.M (avInt (f 0 0)) (avInt (f 0 1)) (avInt (f 0 2)) (avInt (f 0 3))) (key 5 0 0) = y2.S.L.w,
 mget (memPut S.M (avInt (f 0 0)) (avInt (f 0 1)) (avInt (f 0 2)) (avInt (f 0 3))) (key 5 0 0) = y2.S.L.i,
 false = y2.S.L.d,
 ∀ (k : List Int), memPut S.M (avInt (f 0 0)) (avInt (f 0 1)) (avInt (f 0 2)) (avInt (f 0 3)) k = y2.S.M k,
 (0 : Nat) = 0,
 (dPut (dOf R.D.n (wdF R.D.W)) (avInt (f 0 0)) (avInt (f 0 1)) (avInt (f 0 2)) (avInt (f 0 3))).n = y2.R.D.n,
 (none : Option Nat) = none,
 (rLoad (mkR (dPut (dOf R.D.n (wdF R.D.W)) (avInt (f 0 0)) (avInt (f 0 1)) (avInt (f 0 2)) (avInt (f 0 3))).n (wdF (dPut (dOf R.D.n (wdF R.D.W)) (avInt (f 0 0)) (avInt (f 0 1)) (avInt (f 0 2)) (avInt (f 0 3))).W) (IntKind.i64.wrap (R.st + 1)) (LS.mk 2 (avInt (f 0 0)) (avInt (f 0 1)) (avInt (f 0 2)) (dWord (dOf R.D.n (wdF R.D.W)) (avInt (f 0 0)) (avInt (f 0 1)) (avInt (f 0 2))) (dWord (dPut (dOf R.D.n (wdF R.D.W)) (avInt (f 0 0)) (avInt (f 0 1)) (avInt (f 0 2)) (avInt (f 0 3))) (avInt (f 0 0)) (avInt (f 0 1)) (avInt (f 0 2))) false)) 5 0 0).st = y2.R.st,
 1 = y2.R.L.c,
 5 = y2.R.L.k,
 0 = y2.R.L.a,
 0 = y2.R.L.f,
 (rLoad (mkR (dPut (dOf R.D.n (wdF R.D.W)) (avInt (f 0 0)) (avInt (f 0 1)) (avInt (f 0 2)) (avInt (f 0 3))).n (wdF (dPut (dOf R.D.n (wdF R.D.W)) (avInt (f 0 0)) (avInt (f 0 1)) (avInt (f 0 2)) (avInt (f 0 3))).W) (IntKind.i64.wrap (R.st + 1)) (LS.mk 2 (avInt (f 0 0)) (avInt (f 0 1)) (avInt (f 0 2)) (dWord (dOf R.D.n (wdF R.D.W)) (avInt (f 0 0)) (avInt (f 0 1)) (avInt (f 0 2))) (dWord (dPut (dOf R.D.n (wdF R.D.W)) (avInt (f 0 0)) (avInt (f 0 1)) (avInt (f 0 2)) (avInt (f 0 3))) (avInt (f 0 0)) (avInt (f 0 1)) (avInt (f 0 2))) false)) 5 0 0).L.w = y2.R.L.w,
 (rLoad (mkR (dPut (dOf R.D.n (wdF R.D.W)) (avInt (f 0 0)) (avInt (f 0 1)) (avInt (f 0 2)) (avInt (f 0 3))).n (wdF (dPut (dOf R.D.n (wdF R.D.W)) (avInt (f 0 0)) (avInt (f 0 1)) (avInt (f 0 2)) (avInt (f 0 3))).W) (IntKind.i64.wrap (R.st + 1)) (LS.mk 2 (avInt (f 0 0)) (avInt (f 0 1)) (avInt (f 0 2)) (dWord (dOf R.D.n (wdF R.D.W)) (avInt (f 0 0)) (avInt (f 0 1)) (avInt (f 0 2))) (dWord (dPut (dOf R.D.n (wdF R.D.W)) (avInt (f 0 0)) (avInt (f 0 1)) (avInt (f 0 2)) (avInt (f 0 3))) (avInt (f 0 0)) (avInt (f 0 1)) (avInt (f 0 2))) false)) 5 0 0).L.i = y2.R.L.i,
 (rLoad (mkR (dPut (dOf R.D.n (wdF R.D.W)) (avInt (f 0 0)) (avInt (f 0 1)) (avInt (f 0 2)) (avInt (f 0 3))).n (wdF (dPut (dOf R.D.n (wdF R.D.W)) (avInt (f 0 0)) (avInt (f 0 1)) (avInt (f 0 2)) (avInt (f 0 3))).W) (IntKind.i64.wrap (R.st + 1)) (LS.mk 2 (avInt (f 0 0)) (avInt (f 0 1)) (avInt (f 0 2)) (dWord (dOf R.D.n (wdF R.D.W)) (avInt (f 0 0)) (avInt (f 0 1)) (avInt (f 0 2))) (dWord (dPut (dOf R.D.n (wdF R.D.W)) (avInt (f 0 0)) (avInt (f 0 1)) (avInt (f 0 2)) (avInt (f 0 3))) (avInt (f 0 0)) (avInt (f 0 1)) (avInt (f 0 2))) false)) 5 0 0).L.d = y2.R.L.d,
 false = false,
 y2.R.D.n ≤ (dPut (dOf R.D.n (wdF R.D.W)) (avInt (f 0 0)) (avInt (f 0 1)) (avInt (f 0 2)) (avInt (f 0 3))).n,
 wdF y2.R.D.W = wdF (dPut (dOf R.D.n (wdF R.D.W)) (avInt (f 0 0)) (avInt (f 0 1)) (avInt (f 0 2)) (avInt (f 0 3))).W ∧ plainSh wSh = true ∨ ∀ (i : Nat), i < y2.R.D.n → rowOb wSh 0 (wdF (dPut (dOf R.D.n (wdF R.D.W)) (avInt (f 0 0)) (avInt (f 0 1)) (avInt (f 0 2)) (avInt (f 0 3))).W i) (wdF y2.R.D.W i),
 Both (MS.mk (memPut S.M (avInt (f 0 0)) (avInt (f 0 1)) (avInt (f 0 2)) (avInt (f 0 3))) (IntKind.i64.wrap (IntKind.i64.wrap (S.st + 1) + 1)) (LS.mk 1 5 0 0 (mget (memPut S.M (avInt (f 0 0)) (avInt (f 0 1)) (avInt (f 0 2)) (avInt (f 0 3))) (key 5 0 0)) (mget (memPut S.M (avInt (f 0 0)) (avInt (f 0 1)) (avInt (f 0 2)) (avInt (f 0 3))) (key 5 0 0)) false)) (rLoad (mkR (dPut (dOf R.D.n (wdF R.D.W)) (avInt (f 0 0)) (avInt (f 0 1)) (avInt (f 0 2)) (avInt (f 0 3))).n (wdF (dPut (dOf R.D.n (wdF R.D.W)) (avInt (f 0 0)) (avInt (f 0 1)) (avInt (f 0 2)) (avInt (f 0 3))).W) (IntKind.i64.wrap (R.st + 1)) (LS.mk 2 (avInt (f 0 0)) (avInt (f 0 1)) (avInt (f 0 2)) (dWord (dOf R.D.n (wdF R.D.W)) (avInt (f 0 0)) (avInt (f 0 1)) (avInt (f 0 2))) (dWord (dPut (dOf R.D.n (wdF R.D.W)) (avInt (f 0 0)) (avInt (f 0 1)) (avInt (f 0 2)) (avInt (f 0 3))) (avInt (f 0 0)) (avInt (f 0 1)) (avInt (f 0 2))) false)) 5 0 0),
 0 ≤ mget (memPut S.M (avInt (f 0 0)) (avInt (f 0 1)) (avInt (f 0 2)) (avInt (f 0 3))) (key 5 0 0),
 tbN (memPut S.M (avInt (f 0 0)) (avInt (f 0 1)) (avInt (f 0 2)) (avInt (f 0 3))) ≠ 0,
 (1 : Int) = 1,
 (0 : Int) = 0,
 (0 : Int) = 0,
 (0 : Int) = 0,
 (dPut (dOf R.D.n (wdF R.D.W)) (avInt (f 0 0)) (avInt (f 0 1)) (avInt (f 0 2)) (avInt (f 0 3))).n ≤ (dPut (dOf R.D.n (wdF R.D.W)) (avInt (f 0 0)) (avInt (f 0 1)) (avInt (f 0 2)) (avInt (f 0 3))).n,
 (dPut (dOf R.D.n (wdF R.D.W)) (avInt (f 0 0)) (avInt (f 0 1)) (avInt (f 0 2)) (avInt (f 0 3))).n ≤ 100000,
 0 ≤ dWord (dOf (dPut (dOf R.D.n (wdF R.D.W)) (avInt (f 0 0)) (avInt (f 0 1)) (avInt (f 0 2)) (avInt (f 0 3))).n (wdF (dPut (dOf R.D.n (wdF R.D.W)) (avInt (f 0 0)) (avInt (f 0 1)) (avInt (f 0 2)) (avInt (f 0 3))).W)) 5 0 0,
 rbN (dPut (dOf R.D.n (wdF R.D.W)) (avInt (f 0 0)) (avInt (f 0 1)) (avInt (f 0 2)) (avInt (f 0 3))).n (wdF (dPut (dOf R.D.n (wdF R.D.W)) (avInt (f 0 0)) (avInt (f 0 1)) (avInt (f 0 2)) (avInt (f 0 3))).W) ≠ 0,
 R.D.n ≤ R.D.n,
 R.D.n ≤ 100000,
 0 ≤ avInt (f 0 0),
 Nat.blt 0 m = true,
 (Nat.blt (0 : Nat) m && decide ((0 : Int) ≤ (0 : Int))) = true,
 decide (0 < Int.ofNat m) = true]) := by kernel_rfl
theorem ppbtz_1 (n : Nat) (g : Nat → Nat → AV) (m : Nat) (f : Nat → Nat → AV) (al : Nat) (b : Int) (S0 S : MS) (R0 R : RS) (y2 : PS) : roundB ESp 4000 ppL ((ppU n g m f al b S0 R0).hp) [(10, Src.nm 1841226025467674114022254335715388246128357676132655974603635929728802003786330681340677261423465945541892882936992354623472588743498306403361783545860), (12, Src.nm 1022934564967544334379121780258624735067700639388457746713528552530041811376460798401021903851845049109652088789862522190380392670589185329165164871685)] (ppU n g m f al b S R) [Hint.b true, Hint.b true, Hint.node [(3, [Hint.b true])]] (ppZ n g m f al b y2) =
 some (Ex.norm, [(0 : Nat) = 0,
 m = m,
 (none : Option Nat) = none,
 (0 : Nat) = 0,
 (0 : Nat) = 0,
 (0 : Nat) = 0,
 (0 : Nat) = 0,
 (0 : Nat) = 0,
 (0 : Nat) = 0,
 (1 : Int) = 1,
 (1 : Int) = 1,
 rbN (dPut (dOf R.D.n (wdF R.D.W)) (avInt (f 0 0)) (avInt (f 0 1)) (avInt (f 0 2)) (avInt (f 0 3))).n (wdF (dPut (dOf R.D.n (wdF R.D.W)) (avInt (f 0 0)) (avInt (f 0 1)) (avInt (f 0 2)) (avInt (f 0 3))).W) = b,
 (0 : Nat) = 0,
 (0 : Nat) = 0,
 some 0 = some 0,
 (0 : Int) = 0,
 (0 : Int) = 0,
 (0 : Int) = 0,
 (0 : Int) = 0,
 false = false,
 (0 : Nat) ≤ (0 : Nat),
 tF0 = tF0 ∧ plainSh tSh = true ∨ ∀ (i : Nat), i < 0 → rowOb tSh 0 (tF0 i) (tF0 i),
 (0 : Nat) = 0,
 (0 : Nat) = 0,
 (0 : Nat) = 0,
 (0 : Nat) = 0,
 true = true,
 n ≤ n,
 wdF (bgW g) = wdF (bgW g) ∧ plainSh wSh = true ∨ ∀ (i : Nat), i < n → rowOb wSh 0 (wdF (bgW g) i) (wdF (bgW g) i),
 true = true,
 m ≤ m,
 f = f ∧ plainSh wSh = true ∨ ∀ (i : Nat), i < m → rowOb wSh 0 (f i) (f i),
 IntKind.i64.wrap (IntKind.i64.wrap (S.st + 1) + 1) = y2.S.st,
 1 = y2.S.L.c,
 5 = y2.S.L.k,
 0 = y2.S.L.a,
 0 = y2.S.L.f,
 mget (memPut S.M (avInt (f 0 0)) (avInt (f 0 1)) (avInt (f 0 2)) (avInt (f 0 3))) (key 5 0 0) = y2.S.L.w,
 mget (memPut S.M (avInt (f 0 0)) (avInt (f 0 1)) (avInt (f 0 2)) (avInt (f 0 3))) (key 5 0 0) = y2.S.L.i,
 false = y2.S.L.d,
 ∀ (k : List Int), memPut S.M (avInt (f 0 0)) (avInt (f 0 1)) (avInt (f 0 2)) (avInt (f 0 3)) k = y2.S.M k,
 (0 : Nat) = 0,
 (dPut (dOf R.D.n (wdF R.D.W)) (avInt (f 0 0)) (avInt (f 0 1)) (avInt (f 0 2)) (avInt (f 0 3))).n = y2.R.D.n,
 (none : Option Nat) = none,
 (rLoad (mkR (dPut (dOf R.D.n (wdF R.D.W)) (avInt (f 0 0)) (avInt (f 0 1)) (avInt (f 0 2)) (avInt (f 0 3))).n (wdF (dPut (dOf R.D.n (wdF R.D.W)) (avInt (f 0 0)) (avInt (f 0 1)) (avInt (f 0 2)) (avInt (f 0 3))).W) (IntKind.i64.wrap (R.st + 1)) (LS.mk 2 (avInt (f 0 0)) (avInt (f 0 1)) (avInt (f 0 2)) (dWord (dOf R.D.n (wdF R.D.W)) (avInt (f 0 0)) (avInt (f 0 1)) (avInt (f 0 2))) (dWord (dPut (dOf R.D.n (wdF R.D.W)) (avInt (f 0 0)) (avInt (f 0 1)) (avInt (f 0 2)) (avInt (f 0 3))) (avInt (f 0 0)) (avInt (f 0 1)) (avInt (f 0 2))) false)) 5 0 0).st = y2.R.st,
 1 = y2.R.L.c,
 5 = y2.R.L.k,
 0 = y2.R.L.a,
 0 = y2.R.L.f,
 (rLoad (mkR (dPut (dOf R.D.n (wdF R.D.W)) (avInt (f 0 0)) (avInt (f 0 1)) (avInt (f 0 2)) (avInt (f 0 3))).n (wdF (dPut (dOf R.D.n (wdF R.D.W)) (avInt (f 0 0)) (avInt (f 0 1)) (avInt (f 0 2)) (avInt (f 0 3))).W) (IntKind.i64.wrap (R.st + 1)) (LS.mk 2 (avInt (f 0 0)) (avInt (f 0 1)) (avInt (f 0 2)) (dWord (dOf R.D.n (wdF R.D.W)) (avInt (f 0 0)) (avInt (f 0 1)) (avInt (f 0 2))) (dWord (dPut (dOf R.D.n (wdF R.D.W)) (avInt (f 0 0)) (avInt (f 0 1)) (avInt (f 0 2)) (avInt (f 0 3))) (avInt (f 0 0)) (avInt (f 0 1)) (avInt (f 0 2))) false)) 5 0 0).L.w = y2.R.L.w,
 (rLoad (mkR (dPut (dOf R.D.n (wdF R.D.W)) (avInt (f 0 0)) (avInt (f 0 1)) (avInt (f 0 2)) (avInt (f 0 3))).n (wdF (dPut (dOf R.D.n (wdF R.D.W)) (avInt (f 0 0)) (avInt (f 0 1)) (avInt (f 0 2)) (avInt (f 0 3))).W) (IntKind.i64.wrap (R.st + 1)) (LS.mk 2 (avInt (f 0 0)) (avInt (f 0 1)) (avInt (f 0 2)) (dWord (dOf R.D.n (wdF R.D.W)) (avInt (f 0 0)) (avInt (f 0 1)) (avInt (f 0 2))) (dWord (dPut (dOf R.D.n (wdF R.D.W)) (avInt (f 0 0)) (avInt (f 0 1)) (avInt (f 0 2)) (avInt (f 0 3))) (avInt (f 0 0)) (avInt (f 0 1)) (avInt (f 0 2))) false)) 5 0 0).L.i = y2.R.L.i,
 (rLoad (mkR (dPut (dOf R.D.n (wdF R.D.W)) (avInt (f 0 0)) (avInt (f 0 1)) (avInt (f 0 2)) (avInt (f 0 3))).n (wdF (dPut (dOf R.D.n (wdF R.D.W)) (avInt (f 0 0)) (avInt (f 0 1)) (avInt (f 0 2)) (avInt (f 0 3))).W) (IntKind.i64.wrap (R.st + 1)) (LS.mk 2 (avInt (f 0 0)) (avInt (f 0 1)) (avInt (f 0 2)) (dWord (dOf R.D.n (wdF R.D.W)) (avInt (f 0 0)) (avInt (f 0 1)) (avInt (f 0 2))) (dWord (dPut (dOf R.D.n (wdF R.D.W)) (avInt (f 0 0)) (avInt (f 0 1)) (avInt (f 0 2)) (avInt (f 0 3))) (avInt (f 0 0)) (avInt (f 0 1)) (avInt (f 0 2))) false)) 5 0 0).L.d = y2.R.L.d,
 false = false,
 y2.R.D.n ≤ (dPut (dOf R.D.n (wdF R.D.W)) (avInt (f 0 0)) (avInt (f 0 1)) (avInt (f 0 2)) (avInt (f 0 3))).n,
 wdF y2.R.D.W = wdF (dPut (dOf R.D.n (wdF R.D.W)) (avInt (f 0 0)) (avInt (f 0 1)) (avInt (f 0 2)) (avInt (f 0 3))).W ∧ plainSh wSh = true ∨ ∀ (i : Nat), i < y2.R.D.n → rowOb wSh 0 (wdF (dPut (dOf R.D.n (wdF R.D.W)) (avInt (f 0 0)) (avInt (f 0 1)) (avInt (f 0 2)) (avInt (f 0 3))).W i) (wdF y2.R.D.W i),
 Both (MS.mk (memPut S.M (avInt (f 0 0)) (avInt (f 0 1)) (avInt (f 0 2)) (avInt (f 0 3))) (IntKind.i64.wrap (IntKind.i64.wrap (S.st + 1) + 1)) (LS.mk 1 5 0 0 (mget (memPut S.M (avInt (f 0 0)) (avInt (f 0 1)) (avInt (f 0 2)) (avInt (f 0 3))) (key 5 0 0)) (mget (memPut S.M (avInt (f 0 0)) (avInt (f 0 1)) (avInt (f 0 2)) (avInt (f 0 3))) (key 5 0 0)) false)) (rLoad (mkR (dPut (dOf R.D.n (wdF R.D.W)) (avInt (f 0 0)) (avInt (f 0 1)) (avInt (f 0 2)) (avInt (f 0 3))).n (wdF (dPut (dOf R.D.n (wdF R.D.W)) (avInt (f 0 0)) (avInt (f 0 1)) (avInt (f 0 2)) (avInt (f 0 3))).W) (IntKind.i64.wrap (R.st + 1)) (LS.mk 2 (avInt (f 0 0)) (avInt (f 0 1)) (avInt (f 0 2)) (dWord (dOf R.D.n (wdF R.D.W)) (avInt (f 0 0)) (avInt (f 0 1)) (avInt (f 0 2))) (dWord (dPut (dOf R.D.n (wdF R.D.W)) (avInt (f 0 0)) (avInt (f 0 1)) (avInt (f 0 2)) (avInt (f 0 3))) (avInt (f 0 0)) (avInt (f 0 1)) (avInt (f 0 2))) false)) 5 0 0),
 0 ≤ mget (memPut S.M (avInt (f 0 0)) (avInt (f 0 1)) (avInt (f 0 2)) (avInt (f 0 3))) (key 5 0 0),
 tbN (memPut S.M (avInt (f 0 0)) (avInt (f 0 1)) (avInt (f 0 2)) (avInt (f 0 3))) = 0,
 (1 : Int) = 1,
 (0 : Int) = 0,
 (0 : Int) = 0,
 (0 : Int) = 0,
 (dPut (dOf R.D.n (wdF R.D.W)) (avInt (f 0 0)) (avInt (f 0 1)) (avInt (f 0 2)) (avInt (f 0 3))).n ≤ (dPut (dOf R.D.n (wdF R.D.W)) (avInt (f 0 0)) (avInt (f 0 1)) (avInt (f 0 2)) (avInt (f 0 3))).n,
 (dPut (dOf R.D.n (wdF R.D.W)) (avInt (f 0 0)) (avInt (f 0 1)) (avInt (f 0 2)) (avInt (f 0 3))).n ≤ 100000,
 0 ≤ dWord (dOf (dPut (dOf R.D.n (wdF R.D.W)) (avInt (f 0 0)) (avInt (f 0 1)) (avInt (f 0 2)) (avInt (f 0 3))).n (wdF (dPut (dOf R.D.n (wdF R.D.W)) (avInt (f 0 0)) (avInt (f 0 1)) (avInt (f 0 2)) (avInt (f 0 3))).W)) 5 0 0,
 rbN (dPut (dOf R.D.n (wdF R.D.W)) (avInt (f 0 0)) (avInt (f 0 1)) (avInt (f 0 2)) (avInt (f 0 3))).n (wdF (dPut (dOf R.D.n (wdF R.D.W)) (avInt (f 0 0)) (avInt (f 0 1)) (avInt (f 0 2)) (avInt (f 0 3))).W) = 0,
 R.D.n ≤ R.D.n,
 R.D.n ≤ 100000,
 0 ≤ avInt (f 0 0),
 Nat.blt 0 m = true,
 (Nat.blt (0 : Nat) m && decide ((0 : Int) ≤ (0 : Int))) = true,
 decide (0 < Int.ofNat m) = true]) := by kernel_rfl
theorem ppwtc_1 (n : Nat) (g : Nat → Nat → AV) (m : Nat) (f : Nat → Nat → AV) (al : Nat) (b : Int) (kk : Nat) (S0 : MS) (R0 : RS) (y y2 : PS) : roundB ESp 4000 ppL ((ppU n g m f al b S0 R0).hp) [(11, Src.nm 1227521477961053201254946136310349682081240767266149296056234263036050173651752958081226284622214058931582506547835026628456471204707022394998197846026), (10, Src.nm 10), (12, Src.nm 1022934564967544334379121780258624735067700639388457746713528552530041811376460798401021903851845049109652088789862522190380392670589185329165164871688)] (ppW n g m f al b kk y) [Hint.b true, Hint.b true, Hint.b false, Hint.node [(3, [Hint.b false])]] (ppW n g m f al b (kk + 1) y2) =
 some (Ex.norm, [(0 : Nat) = 0,
 m = m,
 (none : Option Nat) = none,
 (0 : Nat) = 0,
 (0 : Nat) = 0,
 (0 : Nat) = 0,
 (0 : Nat) = 0,
 (0 : Nat) = 0,
 (0 : Nat) = 0,
 IntKind.i64.wrap (Int.ofNat (kk + 1) + 1) = Int.ofNat (kk + 1 + 1),
 IntKind.i64.wrap (Int.ofNat (kk + 1) + 1) = Int.ofNat (kk + 1 + 1),
 (0 : Nat) = 0,
 rtN y.fl (rdN y.fl y.ta) = rdN y2.fl y2.ta,
 (none : Option Nat) = none,
 b = b,
 rtL (rdN y.fl y.ta) y.fl (dPut (dOf y.R.D.n (wdF y.R.D.W)) (avInt (f (0 + (kk + 1)) 0)) (avInt (f (0 + (kk + 1)) 1)) (avInt (f (0 + (kk + 1)) 2)) (avInt (f (0 + (kk + 1)) 3))).n (wdF (dPut (dOf y.R.D.n (wdF y.R.D.W)) (avInt (f (0 + (kk + 1)) 0)) (avInt (f (0 + (kk + 1)) 1)) (avInt (f (0 + (kk + 1)) 2)) (avInt (f (0 + (kk + 1)) 3))).W) y.F = y2.fl,
 false = false,
 rdN y2.fl y2.ta ≤ rtN y.fl (rdN y.fl y.ta),
 y2.F = rtF (rdN y.fl y.ta) y.fl (dPut (dOf y.R.D.n (wdF y.R.D.W)) (avInt (f (0 + (kk + 1)) 0)) (avInt (f (0 + (kk + 1)) 1)) (avInt (f (0 + (kk + 1)) 2)) (avInt (f (0 + (kk + 1)) 3))).n (wdF (dPut (dOf y.R.D.n (wdF y.R.D.W)) (avInt (f (0 + (kk + 1)) 0)) (avInt (f (0 + (kk + 1)) 1)) (avInt (f (0 + (kk + 1)) 2)) (avInt (f (0 + (kk + 1)) 3))).W) y.F ∧ plainSh tSh = true ∨ ∀ (i : Nat), i < rdN y2.fl y2.ta → rowOb tSh 0 (rtF (rdN y.fl y.ta) y.fl (dPut (dOf y.R.D.n (wdF y.R.D.W)) (avInt (f (0 + (kk + 1)) 0)) (avInt (f (0 + (kk + 1)) 1)) (avInt (f (0 + (kk + 1)) 2)) (avInt (f (0 + (kk + 1)) 3))).n (wdF (dPut (dOf y.R.D.n (wdF y.R.D.W)) (avInt (f (0 + (kk + 1)) 0)) (avInt (f (0 + (kk + 1)) 1)) (avInt (f (0 + (kk + 1)) 2)) (avInt (f (0 + (kk + 1)) 3))).W) y.F i) (y2.F i),
 (0 : Nat) = 0,
 (0 : Nat) = 0,
 (0 : Nat) = 0,
 al = al,
 some al = some al,
 (0 : Int) = 0,
 tkAt (memPut y.S.M (avInt (f (0 + (kk + 1)) 0)) (avInt (f (0 + (kk + 1)) 1)) (avInt (f (0 + (kk + 1)) 2)) (avInt (f (0 + (kk + 1)) 3))) y.F y.ta y.fl = y2.ta,
 tkFl (memPut y.S.M (avInt (f (0 + (kk + 1)) 0)) (avInt (f (0 + (kk + 1)) 1)) (avInt (f (0 + (kk + 1)) 2)) (avInt (f (0 + (kk + 1)) 3))) y.F y.ta y.fl = y2.fl,
 Int.ofNat al = Int.ofNat al,
 false = false,
 al ≤ al,
 y2.F = tkF y.F y.ta y.fl (mget (memPut y.S.M (avInt (f (0 + (kk + 1)) 0)) (avInt (f (0 + (kk + 1)) 1)) (avInt (f (0 + (kk + 1)) 2)) (avInt (f (0 + (kk + 1)) 3))) (key 8 y.ta y.fl)) ∧ plainSh tSh = true ∨ ∀ (i : Nat), i < al → rowOb tSh 0 (tkF y.F y.ta y.fl (mget (memPut y.S.M (avInt (f (0 + (kk + 1)) 0)) (avInt (f (0 + (kk + 1)) 1)) (avInt (f (0 + (kk + 1)) 2)) (avInt (f (0 + (kk + 1)) 3))) (key 8 y.ta y.fl)) i) (y2.F i),
 (0 : Nat) = 0,
 (0 : Nat) = 0,
 (0 : Nat) = 0,
 (0 : Nat) = 0,
 true = true,
 n ≤ n,
 wdF (bgW g) = wdF (bgW g) ∧ plainSh wSh = true ∨ ∀ (i : Nat), i < n → rowOb wSh 0 (wdF (bgW g) i) (wdF (bgW g) i),
 true = true,
 m ≤ m,
 f = f ∧ plainSh wSh = true ∨ ∀ (i : Nat), i < m → rowOb wSh 0 (f i) (f i),
 IntKind.i64.wrap (IntKind.i64.wrap (y.S.st + 1) + 1) = y2.S.st,
 1 = y2.S.L.c,
 8 = y2.S.L.k,
 y.ta = y2.S.L.a,
 y.fl = y2.S.L.f,
 mget (memPut y.S.M (avInt (f (0 + (kk + 1)) 0)) (avInt (f (0 + (kk + 1)) 1)) (avInt (f (0 + (kk + 1)) 2)) (avInt (f (0 + (kk + 1)) 3))) (key 8 y.ta y.fl) = y2.S.L.w,
 mget (memPut y.S.M (avInt (f (0 + (kk + 1)) 0)) (avInt (f (0 + (kk + 1)) 1)) (avInt (f (0 + (kk + 1)) 2)) (avInt (f (0 + (kk + 1)) 3))) (key 8 y.ta y.fl) = y2.S.L.i,
 false = y2.S.L.d,
 ∀ (k : List Int), memPut y.S.M (avInt (f (0 + (kk + 1)) 0)) (avInt (f (0 + (kk + 1)) 1)) (avInt (f (0 + (kk + 1)) 2)) (avInt (f (0 + (kk + 1)) 3)) k = y2.S.M k,
 (0 : Nat) = 0,
 (dPut (dOf y.R.D.n (wdF y.R.D.W)) (avInt (f (0 + (kk + 1)) 0)) (avInt (f (0 + (kk + 1)) 1)) (avInt (f (0 + (kk + 1)) 2)) (avInt (f (0 + (kk + 1)) 3))).n = y2.R.D.n,
 (none : Option Nat) = none,
 (rLoad (mkR (dPut (dOf y.R.D.n (wdF y.R.D.W)) (avInt (f (0 + (kk + 1)) 0)) (avInt (f (0 + (kk + 1)) 1)) (avInt (f (0 + (kk + 1)) 2)) (avInt (f (0 + (kk + 1)) 3))).n (wdF (dPut (dOf y.R.D.n (wdF y.R.D.W)) (avInt (f (0 + (kk + 1)) 0)) (avInt (f (0 + (kk + 1)) 1)) (avInt (f (0 + (kk + 1)) 2)) (avInt (f (0 + (kk + 1)) 3))).W) (IntKind.i64.wrap (y.R.st + 1)) (LS.mk 2 (avInt (f (0 + (kk + 1)) 0)) (avInt (f (0 + (kk + 1)) 1)) (avInt (f (0 + (kk + 1)) 2)) (dWord (dOf y.R.D.n (wdF y.R.D.W)) (avInt (f (0 + (kk + 1)) 0)) (avInt (f (0 + (kk + 1)) 1)) (avInt (f (0 + (kk + 1)) 2))) (dWord (dPut (dOf y.R.D.n (wdF y.R.D.W)) (avInt (f (0 + (kk + 1)) 0)) (avInt (f (0 + (kk + 1)) 1)) (avInt (f (0 + (kk + 1)) 2)) (avInt (f (0 + (kk + 1)) 3))) (avInt (f (0 + (kk + 1)) 0)) (avInt (f (0 + (kk + 1)) 1)) (avInt (f (0 + (kk + 1)) 2))) false)) 8 (Int.ofNat (rtN y.fl (rdN y.fl y.ta) - 1)) y.fl).st = y2.R.st,
 1 = y2.R.L.c,
 8 = y2.R.L.k,
 (rLoad (mkR (dPut (dOf y.R.D.n (wdF y.R.D.W)) (avInt (f (0 + (kk + 1)) 0)) (avInt (f (0 + (kk + 1)) 1)) (avInt (f (0 + (kk + 1)) 2)) (avInt (f (0 + (kk + 1)) 3))).n (wdF (dPut (dOf y.R.D.n (wdF y.R.D.W)) (avInt (f (0 + (kk + 1)) 0)) (avInt (f (0 + (kk + 1)) 1)) (avInt (f (0 + (kk + 1)) 2)) (avInt (f (0 + (kk + 1)) 3))).W) (IntKind.i64.wrap (y.R.st + 1)) (LS.mk 2 (avInt (f (0 + (kk + 1)) 0)) (avInt (f (0 + (kk + 1)) 1)) (avInt (f (0 + (kk + 1)) 2)) (dWord (dOf y.R.D.n (wdF y.R.D.W)) (avInt (f (0 + (kk + 1)) 0)) (avInt (f (0 + (kk + 1)) 1)) (avInt (f (0 + (kk + 1)) 2))) (dWord (dPut (dOf y.R.D.n (wdF y.R.D.W)) (avInt (f (0 + (kk + 1)) 0)) (avInt (f (0 + (kk + 1)) 1)) (avInt (f (0 + (kk + 1)) 2)) (avInt (f (0 + (kk + 1)) 3))) (avInt (f (0 + (kk + 1)) 0)) (avInt (f (0 + (kk + 1)) 1)) (avInt (f (0 + (kk + 1)) 2))) false)) 8 (Int.ofNat (rtN y.fl (rdN y.fl y.ta) - 1)) y.fl).L.a = y2.R.L.a,
 (rLoad (mkR (dPut (dOf y.R.D.n (wdF y.R.D.W)) (avInt (f (0 + (kk + 1)) 0)) (avInt (f (0 + (kk + 1)) 1)) (avInt (f (0 + (kk + 1)) 2)) (avInt (f (0 + (kk + 1)) 3))).n (wdF (dPut (dOf y.R.D.n (wdF y.R.D.W)) (avInt (f (0 + (kk + 1)) 0)) (avInt (f (0 + (kk + 1)) 1)) (avInt (f (0 + (kk + 1)) 2)) (avInt (f (0 + (kk + 1)) 3))).W) (IntKind.i64.wrap (y.R.st + 1)) (LS.mk 2 (avInt (f (0 + (kk + 1)) 0)) (avInt (f (0 + (kk + 1)) 1)) (avInt (f (0 + (kk + 1)) 2)) (dWord (dOf y.R.D.n (wdF y.R.D.W)) (avInt (f (0 + (kk + 1)) 0)) (avInt (f (0 + (kk + 1)) 1)) (avInt (f (0 + (kk + 1)) 2))) (dWord (dPut (dOf y.R.D.n (wdF y.R.D.W)) (avInt (f (0 + (kk + 1)) 0)) (avInt (f (0 + (kk + 1)) 1)) (avInt (f (0 + (kk + 1)) 2)) (avInt (f (0 + (kk + 1)) 3))) (avInt (f (0 + (kk + 1)) 0)) (avInt (f (0 + (kk + 1)) 1)) (avInt (f (0 + (kk + 1)) 2))) false)) 8 (Int.ofNat (rtN y.fl (rdN y.fl y.ta) - 1)) y.fl).L.f = y2.R.L.f,
 (rLoad (mkR (dPut (dOf y.R.D.n (wdF y.R.D.W)) (avInt (f (0 + (kk + 1)) 0)) (avInt (f (0 + (kk + 1)) 1)) (avInt (f (0 + (kk + 1)) 2)) (avInt (f (0 + (kk + 1)) 3))).n (wdF (dPut (dOf y.R.D.n (wdF y.R.D.W)) (avInt (f (0 + (kk + 1)) 0)) (avInt (f (0 + (kk + 1)) 1)) (avInt (f (0 + (kk + 1)) 2)) (avInt (f (0 + (kk + 1)) 3))).W) (IntKind.i64.wrap (y.R.st + 1)) (LS.mk 2 (avInt (f (0 + (kk + 1)) 0)) (avInt (f (0 + (kk + 1)) 1)) (avInt (f (0 + (kk + 1)) 2)) (dWord (dOf y.R.D.n (wdF y.R.D.W)) (avInt (f (0 + (kk + 1)) 0)) (avInt (f (0 + (kk + 1)) 1)) (avInt (f (0 + (kk + 1)) 2))) (dWord (dPut (dOf y.R.D.n (wdF y.R.D.W)) (avInt (f (0 + (kk + 1)) 0)) (avInt (f (0 + (kk + 1)) 1)) (avInt (f (0 + (kk + 1)) 2)) (avInt (f (0 + (kk + 1)) 3))) (avInt (f (0 + (kk + 1)) 0)) (avInt (f (0 + (kk + 1)) 1)) (avInt (f (0 + (kk + 1)) 2))) false)) 8 (Int.ofNat (rtN y.fl (rdN y.fl y.ta) - 1)) y.fl).L.w = y2.R.L.w,
 (rLoad (mkR (dPut (dOf y.R.D.n (wdF y.R.D.W)) (avInt (f (0 + (kk + 1)) 0)) (avInt (f (0 + (kk + 1)) 1)) (avInt (f (0 + (kk + 1)) 2)) (avInt (f (0 + (kk + 1)) 3))).n (wdF (dPut (dOf y.R.D.n (wdF y.R.D.W)) (avInt (f (0 + (kk + 1)) 0)) (avInt (f (0 + (kk + 1)) 1)) (avInt (f (0 + (kk + 1)) 2)) (avInt (f (0 + (kk + 1)) 3))).W) (IntKind.i64.wrap (y.R.st + 1)) (LS.mk 2 (avInt (f (0 + (kk + 1)) 0)) (avInt (f (0 + (kk + 1)) 1)) (avInt (f (0 + (kk + 1)) 2)) (dWord (dOf y.R.D.n (wdF y.R.D.W)) (avInt (f (0 + (kk + 1)) 0)) (avInt (f (0 + (kk + 1)) 1)) (avInt (f (0 + (kk + 1)) 2))) (dWord (dPut (dOf y.R.D.n (wdF y.R.D.W)) (avInt (f (0 + (kk + 1)) 0)) (avInt (f (0 + (kk + 1)) 1)) (avInt (f (0 + (kk + 1)) 2)) (avInt (f (0 + (kk + 1)) 3))) (avInt (f (0 + (kk + 1)) 0)) (avInt (f (0 + (kk + 1)) 1)) (avInt (f (0 + (kk + 1)) 2))) false)) 8 (Int.ofNat (rtN y.fl (rdN y.fl y.ta) - 1)) y.fl).L.i = y2.R.L.i,
 (rLoad (mkR (dPut (dOf y.R.D.n (wdF y.R.D.W)) (avInt (f (0 + (kk + 1)) 0)) (avInt (f (0 + (kk + 1)) 1)) (avInt (f (0 + (kk + 1)) 2)) (avInt (f (0 + (kk + 1)) 3))).n (wdF (dPut (dOf y.R.D.n (wdF y.R.D.W)) (avInt (f (0 + (kk + 1)) 0)) (avInt (f (0 + (kk + 1)) 1)) (avInt (f (0 + (kk + 1)) 2)) (avInt (f (0 + (kk + 1)) 3))).W) (IntKind.i64.wrap (y.R.st + 1)) (LS.mk 2 (avInt (f (0 + (kk + 1)) 0)) (avInt (f (0 + (kk + 1)) 1)) (avInt (f (0 + (kk + 1)) 2)) (dWord (dOf y.R.D.n (wdF y.R.D.W)) (avInt (f (0 + (kk + 1)) 0)) (avInt (f (0 + (kk + 1)) 1)) (avInt (f (0 + (kk + 1)) 2))) (dWord (dPut (dOf y.R.D.n (wdF y.R.D.W)) (avInt (f (0 + (kk + 1)) 0)) (avInt (f (0 + (kk + 1)) 1)) (avInt (f (0 + (kk + 1)) 2)) (avInt (f (0 + (kk + 1)) 3))) (avInt (f (0 + (kk + 1)) 0)) (avInt (f (0 + (kk + 1)) 1)) (avInt (f (0 + (kk + 1)) 2))) false)) 8 (Int.ofNat (rtN y.fl (rdN y.fl y.ta) - 1)) y.fl).L.d = y2.R.L.d,
 false = false,
 y2.R.D.n ≤ (dPut (dOf y.R.D.n (wdF y.R.D.W)) (avInt (f (0 + (kk + 1)) 0)) (avInt (f (0 + (kk + 1)) 1)) (avInt (f (0 + (kk + 1)) 2)) (avInt (f (0 + (kk + 1)) 3))).n,
 wdF y2.R.D.W = wdF (dPut (dOf y.R.D.n (wdF y.R.D.W)) (avInt (f (0 + (kk + 1)) 0)) (avInt (f (0 + (kk + 1)) 1)) (avInt (f (0 + (kk + 1)) 2)) (avInt (f (0 + (kk + 1)) 3))).W ∧ plainSh wSh = true ∨ ∀ (i : Nat), i < y2.R.D.n → rowOb wSh 0 (wdF (dPut (dOf y.R.D.n (wdF y.R.D.W)) (avInt (f (0 + (kk + 1)) 0)) (avInt (f (0 + (kk + 1)) 1)) (avInt (f (0 + (kk + 1)) 2)) (avInt (f (0 + (kk + 1)) 3))).W i) (wdF y2.R.D.W i),
 Both (MS.mk (memPut y.S.M (avInt (f (0 + (kk + 1)) 0)) (avInt (f (0 + (kk + 1)) 1)) (avInt (f (0 + (kk + 1)) 2)) (avInt (f (0 + (kk + 1)) 3))) (IntKind.i64.wrap (IntKind.i64.wrap (y.S.st + 1) + 1)) (LS.mk 1 8 y.ta y.fl (mget (memPut y.S.M (avInt (f (0 + (kk + 1)) 0)) (avInt (f (0 + (kk + 1)) 1)) (avInt (f (0 + (kk + 1)) 2)) (avInt (f (0 + (kk + 1)) 3))) (key 8 y.ta y.fl)) (mget (memPut y.S.M (avInt (f (0 + (kk + 1)) 0)) (avInt (f (0 + (kk + 1)) 1)) (avInt (f (0 + (kk + 1)) 2)) (avInt (f (0 + (kk + 1)) 3))) (key 8 y.ta y.fl)) false)) (rLoad (mkR (dPut (dOf y.R.D.n (wdF y.R.D.W)) (avInt (f (0 + (kk + 1)) 0)) (avInt (f (0 + (kk + 1)) 1)) (avInt (f (0 + (kk + 1)) 2)) (avInt (f (0 + (kk + 1)) 3))).n (wdF (dPut (dOf y.R.D.n (wdF y.R.D.W)) (avInt (f (0 + (kk + 1)) 0)) (avInt (f (0 + (kk + 1)) 1)) (avInt (f (0 + (kk + 1)) 2)) (avInt (f (0 + (kk + 1)) 3))).W) (IntKind.i64.wrap (y.R.st + 1)) (LS.mk 2 (avInt (f (0 + (kk + 1)) 0)) (avInt (f (0 + (kk + 1)) 1)) (avInt (f (0 + (kk + 1)) 2)) (dWord (dOf y.R.D.n (wdF y.R.D.W)) (avInt (f (0 + (kk + 1)) 0)) (avInt (f (0 + (kk + 1)) 1)) (avInt (f (0 + (kk + 1)) 2))) (dWord (dPut (dOf y.R.D.n (wdF y.R.D.W)) (avInt (f (0 + (kk + 1)) 0)) (avInt (f (0 + (kk + 1)) 1)) (avInt (f (0 + (kk + 1)) 2)) (avInt (f (0 + (kk + 1)) 3))) (avInt (f (0 + (kk + 1)) 0)) (avInt (f (0 + (kk + 1)) 1)) (avInt (f (0 + (kk + 1)) 2))) false)) 8 (Int.ofNat (rtN y.fl (rdN y.fl y.ta) - 1)) y.fl),
 some al = some al,
 al = al,
 TkPre y.F y.ta y.fl (Int.ofNat al) al,
 tkAt (memPut y.S.M (avInt (f (0 + (kk + 1)) 0)) (avInt (f (0 + (kk + 1)) 1)) (avInt (f (0 + (kk + 1)) 2)) (avInt (f (0 + (kk + 1)) 3))) y.F y.ta y.fl ≠ Int.ofNat al,
 (2 : Int) = 2,
 (0 : Int) = 0,
 rdN y.fl y.ta = rdN y.fl y.ta,
 RtPre b y.fl (rtL (rdN y.fl y.ta) y.fl (dPut (dOf y.R.D.n (wdF y.R.D.W)) (avInt (f (0 + (kk + 1)) 0)) (avInt (f (0 + (kk + 1)) 1)) (avInt (f (0 + (kk + 1)) 2)) (avInt (f (0 + (kk + 1)) 3))).n (wdF (dPut (dOf y.R.D.n (wdF y.R.D.W)) (avInt (f (0 + (kk + 1)) 0)) (avInt (f (0 + (kk + 1)) 1)) (avInt (f (0 + (kk + 1)) 2)) (avInt (f (0 + (kk + 1)) 3))).W) y.F) (rdN y.fl y.ta) (rtN y.fl (rdN y.fl y.ta)) (dPut (dOf y.R.D.n (wdF y.R.D.W)) (avInt (f (0 + (kk + 1)) 0)) (avInt (f (0 + (kk + 1)) 1)) (avInt (f (0 + (kk + 1)) 2)) (avInt (f (0 + (kk + 1)) 3))).n (dPut (dOf y.R.D.n (wdF y.R.D.W)) (avInt (f (0 + (kk + 1)) 0)) (avInt (f (0 + (kk + 1)) 1)) (avInt (f (0 + (kk + 1)) 2)) (avInt (f (0 + (kk + 1)) 3))).n (wdF (dPut (dOf y.R.D.n (wdF y.R.D.W)) (avInt (f (0 + (kk + 1)) 0)) (avInt (f (0 + (kk + 1)) 1)) (avInt (f (0 + (kk + 1)) 2)) (avInt (f (0 + (kk + 1)) 3))).W) y.F (rtF (rdN y.fl y.ta) y.fl (dPut (dOf y.R.D.n (wdF y.R.D.W)) (avInt (f (0 + (kk + 1)) 0)) (avInt (f (0 + (kk + 1)) 1)) (avInt (f (0 + (kk + 1)) 2)) (avInt (f (0 + (kk + 1)) 3))).n (wdF (dPut (dOf y.R.D.n (wdF y.R.D.W)) (avInt (f (0 + (kk + 1)) 0)) (avInt (f (0 + (kk + 1)) 1)) (avInt (f (0 + (kk + 1)) 2)) (avInt (f (0 + (kk + 1)) 3))).W) y.F),
 ¬(rtL (rdN y.fl y.ta) y.fl (dPut (dOf y.R.D.n (wdF y.R.D.W)) (avInt (f (0 + (kk + 1)) 0)) (avInt (f (0 + (kk + 1)) 1)) (avInt (f (0 + (kk + 1)) 2)) (avInt (f (0 + (kk + 1)) 3))).n (wdF (dPut (dOf y.R.D.n (wdF y.R.D.W)) (avInt (f (0 + (kk + 1)) 0)) (avInt (f (0 + (kk + 1)) 1)) (avInt (f (0 + (kk + 1)) 2)) (avInt (f (0 + (kk + 1)) 3))).W) y.F = 0 ∧ Int.ofNat (rtN y.fl (rdN y.fl y.ta)) = 4 * b),
 y.R.D.n ≤ y.R.D.n,
 y.R.D.n ≤ 100000,
 0 ≤ avInt (f (0 + (kk + 1)) 0),
 (0 + (kk + 1)).blt m = true,
 ((kk + 1).blt m && decide (0 ≤ Int.ofNat (kk + 1))) = true,
 decide (Int.ofNat (kk + 1) < Int.ofNat m) = true,
 decide (Int.ofNat (kk + 1) < 200) = true]) := by kernel_rfl
theorem ppwto_1 (n : Nat) (g : Nat → Nat → AV) (m : Nat) (f : Nat → Nat → AV) (al : Nat) (b : Int) (kk : Nat) (S0 : MS) (R0 : RS) (y y2 : PS) : roundB ESp 4000 ppL ((ppU n g m f al b S0 R0).hp) [(11, Src.nm 1227521477961053201254946136310349682081240767266149296056234263036050173651752958081226284622214058931582506547835026628456471204707022394998197846026), (10, Src.nm 10), (12, Src.nm 1022934564967544334379121780258624735067700639388457746713528552530041811376460798401021903851845049109652088789862522190380392670589185329165164871688)] (ppW n g m f al b kk y) [Hint.b true, Hint.b true, Hint.b true, Hint.node [(3, [Hint.b true])]] (ppO n g m f al b (kk + 1) y2) =
 some (Ex.norm, [(0 : Nat) = 0,
 m = m,
 (none : Option Nat) = none,
 (0 : Nat) = 0,
 (0 : Nat) = 0,
 (0 : Nat) = 0,
 (0 : Nat) = 0,
 (0 : Nat) = 0,
 (0 : Nat) = 0,
 IntKind.i64.wrap (Int.ofNat (kk + 1) + 1) = Int.ofNat (kk + 1 + 1),
 IntKind.i64.wrap (Int.ofNat (kk + 1) + 1) = Int.ofNat (kk + 1 + 1),
 (0 : Nat) = 0,
 rtN y.fl (rdN y.fl y.ta) = rdN y2.fl y2.ta,
 (none : Option Nat) = none,
 b = b,
 rtL (rdN y.fl y.ta) y.fl (dPut (dOf y.R.D.n (wdF y.R.D.W)) (avInt (f (0 + (kk + 1)) 0)) (avInt (f (0 + (kk + 1)) 1)) (avInt (f (0 + (kk + 1)) 2)) (avInt (f (0 + (kk + 1)) 3))).n (wdF (dPut (dOf y.R.D.n (wdF y.R.D.W)) (avInt (f (0 + (kk + 1)) 0)) (avInt (f (0 + (kk + 1)) 1)) (avInt (f (0 + (kk + 1)) 2)) (avInt (f (0 + (kk + 1)) 3))).W) y.F = y2.fl,
 false = false,
 rdN y2.fl y2.ta ≤ rtN y.fl (rdN y.fl y.ta),
 y2.F = rtF (rdN y.fl y.ta) y.fl (dPut (dOf y.R.D.n (wdF y.R.D.W)) (avInt (f (0 + (kk + 1)) 0)) (avInt (f (0 + (kk + 1)) 1)) (avInt (f (0 + (kk + 1)) 2)) (avInt (f (0 + (kk + 1)) 3))).n (wdF (dPut (dOf y.R.D.n (wdF y.R.D.W)) (avInt (f (0 + (kk + 1)) 0)) (avInt (f (0 + (kk + 1)) 1)) (avInt (f (0 + (kk + 1)) 2)) (avInt (f (0 + (kk + 1)) 3))).W) y.F ∧ plainSh tSh = true ∨ ∀ (i : Nat), i < rdN y2.fl y2.ta → rowOb tSh 0 (rtF (rdN y.fl y.ta) y.fl (dPut (dOf y.R.D.n (wdF y.R.D.W)) (avInt (f (0 + (kk + 1)) 0)) (avInt (f (0 + (kk + 1)) 1)) (avInt (f (0 + (kk + 1)) 2)) (avInt (f (0 + (kk + 1)) 3))).n (wdF (dPut (dOf y.R.D.n (wdF y.R.D.W)) (avInt (f (0 + (kk + 1)) 0)) (avInt (f (0 + (kk + 1)) 1)) (avInt (f (0 + (kk + 1)) 2)) (avInt (f (0 + (kk + 1)) 3))).W) y.F i) (y2.F i),
 (0 : Nat) = 0,
 al = al,
 some al = some al,
 (0 : Int) = 0,
 tkAt (memPut y.S.M (avInt (f (0 + (kk + 1)) 0)) (avInt (f (0 + (kk + 1)) 1)) (avInt (f (0 + (kk + 1)) 2)) (avInt (f (0 + (kk + 1)) 3))) y.F y.ta y.fl = y2.ta,
 tkFl (memPut y.S.M (avInt (f (0 + (kk + 1)) 0)) (avInt (f (0 + (kk + 1)) 1)) (avInt (f (0 + (kk + 1)) 2)) (avInt (f (0 + (kk + 1)) 3))) y.F y.ta y.fl = y2.fl,
 Int.ofNat al = Int.ofNat al,
 false = false,
 al ≤ al,
 y2.F = tkF y.F y.ta y.fl (mget (memPut y.S.M (avInt (f (0 + (kk + 1)) 0)) (avInt (f (0 + (kk + 1)) 1)) (avInt (f (0 + (kk + 1)) 2)) (avInt (f (0 + (kk + 1)) 3))) (key 8 y.ta y.fl)) ∧ plainSh tSh = true ∨ ∀ (i : Nat), i < al → rowOb tSh 0 (tkF y.F y.ta y.fl (mget (memPut y.S.M (avInt (f (0 + (kk + 1)) 0)) (avInt (f (0 + (kk + 1)) 1)) (avInt (f (0 + (kk + 1)) 2)) (avInt (f (0 + (kk + 1)) 3))) (key 8 y.ta y.fl)) i) (y2.F i),
 (0 : Nat) = 0,
 (0 : Nat) = 0,
 (0 : Nat) = 0,
 (0 : Nat) = 0,
 true = true,
 n ≤ n,
 wdF (bgW g) = wdF (bgW g) ∧ plainSh wSh = true ∨ ∀ (i : Nat), i < n → rowOb wSh 0 (wdF (bgW g) i) (wdF (bgW g) i),
 true = true,
 m ≤ m,
 f = f ∧ plainSh wSh = true ∨ ∀ (i : Nat), i < m → rowOb wSh 0 (f i) (f i),
 IntKind.i64.wrap (IntKind.i64.wrap (y.S.st + 1) + 1) = y2.S.st,
 1 = y2.S.L.c,
 8 = y2.S.L.k,
 y.ta = y2.S.L.a,
 y.fl = y2.S.L.f,
 mget (memPut y.S.M (avInt (f (0 + (kk + 1)) 0)) (avInt (f (0 + (kk + 1)) 1)) (avInt (f (0 + (kk + 1)) 2)) (avInt (f (0 + (kk + 1)) 3))) (key 8 y.ta y.fl) = y2.S.L.w,
 mget (memPut y.S.M (avInt (f (0 + (kk + 1)) 0)) (avInt (f (0 + (kk + 1)) 1)) (avInt (f (0 + (kk + 1)) 2)) (avInt (f (0 + (kk + 1)) 3))) (key 8 y.ta y.fl) = y2.S.L.i,
 false = y2.S.L.d,
 ∀ (k : List Int), memPut y.S.M (avInt (f (0 + (kk + 1)) 0)) (avInt (f (0 + (kk + 1)) 1)) (avInt (f (0 + (kk + 1)) 2)) (avInt (f (0 + (kk + 1)) 3)) k = y2.S.M k,
 (0 : Nat) = 0,
 (dPut (dOf y.R.D.n (wdF y.R.D.W)) (avInt (f (0 + (kk + 1)) 0)) (avInt (f (0 + (kk + 1)) 1)) (avInt (f (0 + (kk + 1)) 2)) (avInt (f (0 + (kk + 1)) 3))).n = y2.R.D.n,
 (none : Option Nat) = none,
 (rLoad (mkR (dPut (dOf y.R.D.n (wdF y.R.D.W)) (avInt (f (0 + (kk + 1)) 0)) (avInt (f (0 + (kk + 1)) 1)) (avInt (f (0 + (kk + 1)) 2)) (avInt (f (0 + (kk + 1)) 3))).n (wdF (dPut (dOf y.R.D.n (wdF y.R.D.W)) (avInt (f (0 + (kk + 1)) 0)) (avInt (f (0 + (kk + 1)) 1)) (avInt (f (0 + (kk + 1)) 2)) (avInt (f (0 + (kk + 1)) 3))).W) (IntKind.i64.wrap (y.R.st + 1)) (LS.mk 2 (avInt (f (0 + (kk + 1)) 0)) (avInt (f (0 + (kk + 1)) 1)) (avInt (f (0 + (kk + 1)) 2)) (dWord (dOf y.R.D.n (wdF y.R.D.W)) (avInt (f (0 + (kk + 1)) 0)) (avInt (f (0 + (kk + 1)) 1)) (avInt (f (0 + (kk + 1)) 2))) (dWord (dPut (dOf y.R.D.n (wdF y.R.D.W)) (avInt (f (0 + (kk + 1)) 0)) (avInt (f (0 + (kk + 1)) 1)) (avInt (f (0 + (kk + 1)) 2)) (avInt (f (0 + (kk + 1)) 3))) (avInt (f (0 + (kk + 1)) 0)) (avInt (f (0 + (kk + 1)) 1)) (avInt (f (0 + (kk + 1)) 2))) false)) 8 (Int.ofNat (rtN y.fl (rdN y.fl y.ta) - 1)) y.fl).st = y2.R.st,
 1 = y2.R.L.c,
 8 = y2.R.L.k,
 (rLoad (mkR (dPut (dOf y.R.D.n (wdF y.R.D.W)) (avInt (f (0 + (kk + 1)) 0)) (avInt (f (0 + (kk + 1)) 1)) (avInt (f (0 + (kk + 1)) 2)) (avInt (f (0 + (kk + 1)) 3))).n (wdF (dPut (dOf y.R.D.n (wdF y.R.D.W)) (avInt (f (0 + (kk + 1)) 0)) (avInt (f (0 + (kk + 1)) 1)) (avInt (f (0 + (kk + 1)) 2)) (avInt (f (0 + (kk + 1)) 3))).W) (IntKind.i64.wrap (y.R.st + 1)) (LS.mk 2 (avInt (f (0 + (kk + 1)) 0)) (avInt (f (0 + (kk + 1)) 1)) (avInt (f (0 + (kk + 1)) 2)) (dWord (dOf y.R.D.n (wdF y.R.D.W)) (avInt (f (0 + (kk + 1)) 0)) (avInt (f (0 + (kk + 1)) 1)) (avInt (f (0 + (kk + 1)) 2))) (dWord (dPut (dOf y.R.D.n (wdF y.R.D.W)) (avInt (f (0 + (kk + 1)) 0)) (avInt (f (0 + (kk + 1)) 1)) (avInt (f (0 + (kk + 1)) 2)) (avInt (f (0 + (kk + 1)) 3))) (avInt (f (0 + (kk + 1)) 0)) (avInt (f (0 + (kk + 1)) 1)) (avInt (f (0 + (kk + 1)) 2))) false)) 8 (Int.ofNat (rtN y.fl (rdN y.fl y.ta) - 1)) y.fl).L.a = y2.R.L.a,
 (rLoad (mkR (dPut (dOf y.R.D.n (wdF y.R.D.W)) (avInt (f (0 + (kk + 1)) 0)) (avInt (f (0 + (kk + 1)) 1)) (avInt (f (0 + (kk + 1)) 2)) (avInt (f (0 + (kk + 1)) 3))).n (wdF (dPut (dOf y.R.D.n (wdF y.R.D.W)) (avInt (f (0 + (kk + 1)) 0)) (avInt (f (0 + (kk + 1)) 1)) (avInt (f (0 + (kk + 1)) 2)) (avInt (f (0 + (kk + 1)) 3))).W) (IntKind.i64.wrap (y.R.st + 1)) (LS.mk 2 (avInt (f (0 + (kk + 1)) 0)) (avInt (f (0 + (kk + 1)) 1)) (avInt (f (0 + (kk + 1)) 2)) (dWord (dOf y.R.D.n (wdF y.R.D.W)) (avInt (f (0 + (kk + 1)) 0)) (avInt (f (0 + (kk + 1)) 1)) (avInt (f (0 + (kk + 1)) 2))) (dWord (dPut (dOf y.R.D.n (wdF y.R.D.W)) (avInt (f (0 + (kk + 1)) 0)) (avInt (f (0 + (kk + 1)) 1)) (avInt (f (0 + (kk + 1)) 2)) (avInt (f (0 + (kk + 1)) 3))) (avInt (f (0 + (kk + 1)) 0)) (avInt (f (0 + (kk + 1)) 1)) (avInt (f (0 + (kk + 1)) 2))) false)) 8 (Int.ofNat (rtN y.fl (rdN y.fl y.ta) - 1)) y.fl).L.f = y2.R.L.f,
 (rLoad (mkR (dPut (dOf y.R.D.n (wdF y.R.D.W)) (avInt (f (0 + (kk + 1)) 0)) (avInt (f (0 + (kk + 1)) 1)) (avInt (f (0 + (kk + 1)) 2)) (avInt (f (0 + (kk + 1)) 3))).n (wdF (dPut (dOf y.R.D.n (wdF y.R.D.W)) (avInt (f (0 + (kk + 1)) 0)) (avInt (f (0 + (kk + 1)) 1)) (avInt (f (0 + (kk + 1)) 2)) (avInt (f (0 + (kk + 1)) 3))).W) (IntKind.i64.wrap (y.R.st + 1)) (LS.mk 2 (avInt (f (0 + (kk + 1)) 0)) (avInt (f (0 + (kk + 1)) 1)) (avInt (f (0 + (kk + 1)) 2)) (dWord (dOf y.R.D.n (wdF y.R.D.W)) (avInt (f (0 + (kk + 1)) 0)) (avInt (f (0 + (kk + 1)) 1)) (avInt (f (0 + (kk + 1)) 2))) (dWord (dPut (dOf y.R.D.n (wdF y.R.D.W)) (avInt (f (0 + (kk + 1)) 0)) (avInt (f (0 + (kk + 1)) 1)) (avInt (f (0 + (kk + 1)) 2)) (avInt (f (0 + (kk + 1)) 3))) (avInt (f (0 + (kk + 1)) 0)) (avInt (f (0 + (kk + 1)) 1)) (avInt (f (0 + (kk + 1)) 2))) false)) 8 (Int.ofNat (rtN y.fl (rdN y.fl y.ta) - 1)) y.fl).L.w = y2.R.L.w,
 (rLoad (mkR (dPut (dOf y.R.D.n (wdF y.R.D.W)) (avInt (f (0 + (kk + 1)) 0)) (avInt (f (0 + (kk + 1)) 1)) (avInt (f (0 + (kk + 1)) 2)) (avInt (f (0 + (kk + 1)) 3))).n (wdF (dPut (dOf y.R.D.n (wdF y.R.D.W)) (avInt (f (0 + (kk + 1)) 0)) (avInt (f (0 + (kk + 1)) 1)) (avInt (f (0 + (kk + 1)) 2)) (avInt (f (0 + (kk + 1)) 3))).W) (IntKind.i64.wrap (y.R.st + 1)) (LS.mk 2 (avInt (f (0 + (kk + 1)) 0)) (avInt (f (0 + (kk + 1)) 1)) (avInt (f (0 + (kk + 1)) 2)) (dWord (dOf y.R.D.n (wdF y.R.D.W)) (avInt (f (0 + (kk + 1)) 0)) (avInt (f (0 + (kk + 1)) 1)) (avInt (f (0 + (kk + 1)) 2))) (dWord (dPut (dOf y.R.D.n (wdF y.R.D.W)) (avInt (f (0 + (kk + 1)) 0)) (avInt (f (0 + (kk + 1)) 1)) (avInt (f (0 + (kk + 1)) 2)) (avInt (f (0 + (kk + 1)) 3))) (avInt (f (0 + (kk + 1)) 0)) (avInt (f (0 + (kk + 1)) 1)) (avInt (f (0 + (kk + 1)) 2))) false)) 8 (Int.ofNat (rtN y.fl (rdN y.fl y.ta) - 1)) y.fl).L.i = y2.R.L.i,
 (rLoad (mkR (dPut (dOf y.R.D.n (wdF y.R.D.W)) (avInt (f (0 + (kk + 1)) 0)) (avInt (f (0 + (kk + 1)) 1)) (avInt (f (0 + (kk + 1)) 2)) (avInt (f (0 + (kk + 1)) 3))).n (wdF (dPut (dOf y.R.D.n (wdF y.R.D.W)) (avInt (f (0 + (kk + 1)) 0)) (avInt (f (0 + (kk + 1)) 1)) (avInt (f (0 + (kk + 1)) 2)) (avInt (f (0 + (kk + 1)) 3))).W) (IntKind.i64.wrap (y.R.st + 1)) (LS.mk 2 (avInt (f (0 + (kk + 1)) 0)) (avInt (f (0 + (kk + 1)) 1)) (avInt (f (0 + (kk + 1)) 2)) (dWord (dOf y.R.D.n (wdF y.R.D.W)) (avInt (f (0 + (kk + 1)) 0)) (avInt (f (0 + (kk + 1)) 1)) (avInt (f (0 + (kk + 1)) 2))) (dWord (dPut (dOf y.R.D.n (wdF y.R.D.W)) (avInt (f (0 + (kk + 1)) 0)) (avInt (f (0 + (kk + 1)) 1)) (avInt (f (0 + (kk + 1)) 2)) (avInt (f (0 + (kk + 1)) 3))) (avInt (f (0 + (kk + 1)) 0)) (avInt (f (0 + (kk + 1)) 1)) (avInt (f (0 + (kk + 1)) 2))) false)) 8 (Int.ofNat (rtN y.fl (rdN y.fl y.ta) - 1)) y.fl).L.d = y2.R.L.d,
 false = false,
 y2.R.D.n ≤ (dPut (dOf y.R.D.n (wdF y.R.D.W)) (avInt (f (0 + (kk + 1)) 0)) (avInt (f (0 + (kk + 1)) 1)) (avInt (f (0 + (kk + 1)) 2)) (avInt (f (0 + (kk + 1)) 3))).n,
 wdF y2.R.D.W = wdF (dPut (dOf y.R.D.n (wdF y.R.D.W)) (avInt (f (0 + (kk + 1)) 0)) (avInt (f (0 + (kk + 1)) 1)) (avInt (f (0 + (kk + 1)) 2)) (avInt (f (0 + (kk + 1)) 3))).W ∧ plainSh wSh = true ∨ ∀ (i : Nat), i < y2.R.D.n → rowOb wSh 0 (wdF (dPut (dOf y.R.D.n (wdF y.R.D.W)) (avInt (f (0 + (kk + 1)) 0)) (avInt (f (0 + (kk + 1)) 1)) (avInt (f (0 + (kk + 1)) 2)) (avInt (f (0 + (kk + 1)) 3))).W i) (wdF y2.R.D.W i),
 Both (MS.mk (memPut y.S.M (avInt (f (0 + (kk + 1)) 0)) (avInt (f (0 + (kk + 1)) 1)) (avInt (f (0 + (kk + 1)) 2)) (avInt (f (0 + (kk + 1)) 3))) (IntKind.i64.wrap (IntKind.i64.wrap (y.S.st + 1) + 1)) (LS.mk 1 8 y.ta y.fl (mget (memPut y.S.M (avInt (f (0 + (kk + 1)) 0)) (avInt (f (0 + (kk + 1)) 1)) (avInt (f (0 + (kk + 1)) 2)) (avInt (f (0 + (kk + 1)) 3))) (key 8 y.ta y.fl)) (mget (memPut y.S.M (avInt (f (0 + (kk + 1)) 0)) (avInt (f (0 + (kk + 1)) 1)) (avInt (f (0 + (kk + 1)) 2)) (avInt (f (0 + (kk + 1)) 3))) (key 8 y.ta y.fl)) false)) (rLoad (mkR (dPut (dOf y.R.D.n (wdF y.R.D.W)) (avInt (f (0 + (kk + 1)) 0)) (avInt (f (0 + (kk + 1)) 1)) (avInt (f (0 + (kk + 1)) 2)) (avInt (f (0 + (kk + 1)) 3))).n (wdF (dPut (dOf y.R.D.n (wdF y.R.D.W)) (avInt (f (0 + (kk + 1)) 0)) (avInt (f (0 + (kk + 1)) 1)) (avInt (f (0 + (kk + 1)) 2)) (avInt (f (0 + (kk + 1)) 3))).W) (IntKind.i64.wrap (y.R.st + 1)) (LS.mk 2 (avInt (f (0 + (kk + 1)) 0)) (avInt (f (0 + (kk + 1)) 1)) (avInt (f (0 + (kk + 1)) 2)) (dWord (dOf y.R.D.n (wdF y.R.D.W)) (avInt (f (0 + (kk + 1)) 0)) (avInt (f (0 + (kk + 1)) 1)) (avInt (f (0 + (kk + 1)) 2))) (dWord (dPut (dOf y.R.D.n (wdF y.R.D.W)) (avInt (f (0 + (kk + 1)) 0)) (avInt (f (0 + (kk + 1)) 1)) (avInt (f (0 + (kk + 1)) 2)) (avInt (f (0 + (kk + 1)) 3))) (avInt (f (0 + (kk + 1)) 0)) (avInt (f (0 + (kk + 1)) 1)) (avInt (f (0 + (kk + 1)) 2))) false)) 8 (Int.ofNat (rtN y.fl (rdN y.fl y.ta) - 1)) y.fl),
 some al = some al,
 al = al,
 TkPre y.F y.ta y.fl (Int.ofNat al) al,
 tkAt (memPut y.S.M (avInt (f (0 + (kk + 1)) 0)) (avInt (f (0 + (kk + 1)) 1)) (avInt (f (0 + (kk + 1)) 2)) (avInt (f (0 + (kk + 1)) 3))) y.F y.ta y.fl = Int.ofNat al,
 (2 : Int) = 2,
 (0 : Int) = 0,
 rdN y.fl y.ta = rdN y.fl y.ta,
 RtPre b y.fl (rtL (rdN y.fl y.ta) y.fl (dPut (dOf y.R.D.n (wdF y.R.D.W)) (avInt (f (0 + (kk + 1)) 0)) (avInt (f (0 + (kk + 1)) 1)) (avInt (f (0 + (kk + 1)) 2)) (avInt (f (0 + (kk + 1)) 3))).n (wdF (dPut (dOf y.R.D.n (wdF y.R.D.W)) (avInt (f (0 + (kk + 1)) 0)) (avInt (f (0 + (kk + 1)) 1)) (avInt (f (0 + (kk + 1)) 2)) (avInt (f (0 + (kk + 1)) 3))).W) y.F) (rdN y.fl y.ta) (rtN y.fl (rdN y.fl y.ta)) (dPut (dOf y.R.D.n (wdF y.R.D.W)) (avInt (f (0 + (kk + 1)) 0)) (avInt (f (0 + (kk + 1)) 1)) (avInt (f (0 + (kk + 1)) 2)) (avInt (f (0 + (kk + 1)) 3))).n (dPut (dOf y.R.D.n (wdF y.R.D.W)) (avInt (f (0 + (kk + 1)) 0)) (avInt (f (0 + (kk + 1)) 1)) (avInt (f (0 + (kk + 1)) 2)) (avInt (f (0 + (kk + 1)) 3))).n (wdF (dPut (dOf y.R.D.n (wdF y.R.D.W)) (avInt (f (0 + (kk + 1)) 0)) (avInt (f (0 + (kk + 1)) 1)) (avInt (f (0 + (kk + 1)) 2)) (avInt (f (0 + (kk + 1)) 3))).W) y.F (rtF (rdN y.fl y.ta) y.fl (dPut (dOf y.R.D.n (wdF y.R.D.W)) (avInt (f (0 + (kk + 1)) 0)) (avInt (f (0 + (kk + 1)) 1)) (avInt (f (0 + (kk + 1)) 2)) (avInt (f (0 + (kk + 1)) 3))).n (wdF (dPut (dOf y.R.D.n (wdF y.R.D.W)) (avInt (f (0 + (kk + 1)) 0)) (avInt (f (0 + (kk + 1)) 1)) (avInt (f (0 + (kk + 1)) 2)) (avInt (f (0 + (kk + 1)) 3))).W) y.F),
 rtL (rdN y.fl y.ta) y.fl (dPut (dOf y.R.D.n (wdF y.R.D.W)) (avInt (f (0 + (kk + 1)) 0)) (avInt (f (0 + (kk + 1)) 1)) (avInt (f (0 + (kk + 1)) 2)) (avInt (f (0 + (kk + 1)) 3))).n (wdF (dPut (dOf y.R.D.n (wdF y.R.D.W)) (avInt (f (0 + (kk + 1)) 0)) (avInt (f (0 + (kk + 1)) 1)) (avInt (f (0 + (kk + 1)) 2)) (avInt (f (0 + (kk + 1)) 3))).W) y.F = 0 ∧ Int.ofNat (rtN y.fl (rdN y.fl y.ta)) = 4 * b,
 y.R.D.n ≤ y.R.D.n,
 y.R.D.n ≤ 100000,
 0 ≤ avInt (f (0 + (kk + 1)) 0),
 (0 + (kk + 1)).blt m = true,
 ((kk + 1).blt m && decide (0 ≤ Int.ofNat (kk + 1))) = true,
 decide (Int.ofNat (kk + 1) < Int.ofNat m) = true,
 decide (Int.ofNat (kk + 1) < 200) = true]) := by kernel_rfl
theorem ppbfn_1 (n : Nat) (g : Nat → Nat → AV) (m : Nat) (f : Nat → Nat → AV) (al : Nat) (b : Int) (S0 S : MS) (R0 R : RS) (y2 : PS) : roundB ESp 4000 ppL ((ppU n g m f al b S0 R0).hp) [(11, Src.nil 10), (10, Src.nm 613760738980526600627473068155174841040620383633074648028117131518025086825876479040613142311107029465791253273917513314228235602353511197499098923018), (12, Src.nm 6)] (ppU n g m f al b S R) [Hint.b false, Hint.b false, Hint.node [(3, [Hint.b false])]] (ppW n g m f al b 0 y2) =
 some (Ex.norm, [(0 : Nat) = 0,
 m = m,
 (none : Option Nat) = none,
 (0 : Nat) = 0,
 (0 : Nat) = 0,
 (0 : Nat) = 0,
 (0 : Nat) = 0,
 (0 : Nat) = 0,
 (0 : Nat) = 0,
 (1 : Int) = 1,
 (1 : Int) = 1,
 (0 : Nat) = 0,
 0 = rdN y2.fl y2.ta,
 (none : Option Nat) = none,
 rbN R.D.n (wdF R.D.W) = b,
 0 = y2.fl,
 rdN y2.fl y2.ta = 0,
 (0 : Nat) = 0,
 (0 : Nat) = 0,
 (0 : Nat) = 0,
 (tbN S.M).toNat = al,
 some (tbN S.M).toNat = some al,
 (0 : Int) = 0,
 0 = y2.ta,
 0 = y2.fl,
 tbN S.M = Int.ofNat al,
 false = false,
 al ≤ (tbN S.M).toNat,
 y2.F = tF0 ∧ plainSh tSh = true ∨ ∀ (i : Nat), i < al → rowOb tSh 0 (tF0 i) (y2.F i),
 (0 : Nat) = 0,
 (0 : Nat) = 0,
 (0 : Nat) = 0,
 (0 : Nat) = 0,
 true = true,
 n ≤ n,
 wdF (bgW g) = wdF (bgW g) ∧ plainSh wSh = true ∨ ∀ (i : Nat), i < n → rowOb wSh 0 (wdF (bgW g) i) (wdF (bgW g) i),
 true = true,
 m ≤ m,
 f = f ∧ plainSh wSh = true ∨ ∀ (i : Nat), i < m → rowOb wSh 0 (f i) (f i),
 IntKind.i64.wrap (S.st + 1) = y2.S.st,
 1 = y2.S.L.c,
 5 = y2.S.L.k,
 0 = y2.S.L.a,
 0 = y2.S.L.f,
 mget S.M (key 5 0 0) = y2.S.L.w,
 mget S.M (key 5 0 0) = y2.S.L.i,
 false = y2.S.L.d,
 ∀ (k : List Int), S.M k = y2.S.M k,
 (0 : Nat) = 0,
 R.D.n = y2.R.D.n,
 (none : Option Nat) = none,
 (rLoad R 5 0 0).st = y2.R.st,
 1 = y2.R.L.c,
 5 = y2.R.L.k,
 0 = y2.R.L.a,
 0 = y2.R.L.f,
 (rLoad R 5 0 0).L.w = y2.R.L.w,
 (rLoad R 5 0 0).L.i = y2.R.L.i,
 (rLoad R 5 0 0).L.d = y2.R.L.d,
 false = false,
 y2.R.D.n ≤ R.D.n,
 wdF y2.R.D.W = wdF R.D.W ∧ plainSh wSh = true ∨ ∀ (i : Nat), i < y2.R.D.n → rowOb wSh 0 (wdF R.D.W i) (wdF y2.R.D.W i),
 Both (MS.mk S.M (IntKind.i64.wrap (S.st + 1)) (LS.mk 1 5 0 0 (mget S.M (key 5 0 0)) (mget S.M (key 5 0 0)) false)) (rLoad R 5 0 0),
 0 ≤ mget S.M (key 5 0 0),
 tbN S.M ≠ 0,
 (1 : Int) = 1,
 (0 : Int) = 0,
 (0 : Int) = 0,
 (0 : Int) = 0,
 R.D.n ≤ R.D.n,
 R.D.n ≤ 100000,
 0 ≤ dWord (dOf R.D.n (wdF R.D.W)) 5 0 0,
 rbN R.D.n (wdF R.D.W) ≠ 0,
 decide (0 < Int.ofNat m) = false]) := by kernel_rfl
theorem ppbfz_1 (n : Nat) (g : Nat → Nat → AV) (m : Nat) (f : Nat → Nat → AV) (al : Nat) (b : Int) (S0 S : MS) (R0 R : RS) (y2 : PS) : roundB ESp 4000 ppL ((ppU n g m f al b S0 R0).hp) [(10, Src.nm 613760738980526600627473068155174841040620383633074648028117131518025086825876479040613142311107029465791253273917513314228235602353511197499098923018), (12, Src.nm 6)] (ppU n g m f al b S R) [Hint.b false, Hint.b true, Hint.node [(3, [Hint.b true])]] (ppZ n g m f al b y2) =
 some (Ex.norm, [(0 : Nat) = 0,
 m = m,
 (none : Option Nat) = none,
 (0 : Nat) = 0,
 (0 : Nat) = 0,
 (0 : Nat) = 0,
 (0 : Nat) = 0,
 (0 : Nat) = 0,
 (0 : Nat) = 0,
 (1 : Int) = 1,
 (1 : Int) = 1,
 rbN R.D.n (wdF R.D.W) = b,
 (0 : Nat) = 0,
 (0 : Nat) = 0,
 some 0 = some 0,
 (0 : Int) = 0,
 (0 : Int) = 0,
 (0 : Int) = 0,
 (0 : Int) = 0,
 false = false,
 (0 : Nat) ≤ (0 : Nat),
 tF0 = tF0 ∧ plainSh tSh = true ∨ ∀ (i : Nat), i < 0 → rowOb tSh 0 (tF0 i) (tF0 i),
 (0 : Nat) = 0,
 (0 : Nat) = 0,
 (0 : Nat) = 0,
 (0 : Nat) = 0,
 true = true,
 n ≤ n,
 wdF (bgW g) = wdF (bgW g) ∧ plainSh wSh = true ∨ ∀ (i : Nat), i < n → rowOb wSh 0 (wdF (bgW g) i) (wdF (bgW g) i),
 true = true,
 m ≤ m,
 f = f ∧ plainSh wSh = true ∨ ∀ (i : Nat), i < m → rowOb wSh 0 (f i) (f i),
 IntKind.i64.wrap (S.st + 1) = y2.S.st,
 1 = y2.S.L.c,
 5 = y2.S.L.k,
 0 = y2.S.L.a,
 0 = y2.S.L.f,
 mget S.M (key 5 0 0) = y2.S.L.w,
 mget S.M (key 5 0 0) = y2.S.L.i,
 false = y2.S.L.d,
 ∀ (k : List Int), S.M k = y2.S.M k,
 (0 : Nat) = 0,
 R.D.n = y2.R.D.n,
 (none : Option Nat) = none,
 (rLoad R 5 0 0).st = y2.R.st,
 1 = y2.R.L.c,
 5 = y2.R.L.k,
 0 = y2.R.L.a,
 0 = y2.R.L.f,
 (rLoad R 5 0 0).L.w = y2.R.L.w,
 (rLoad R 5 0 0).L.i = y2.R.L.i,
 (rLoad R 5 0 0).L.d = y2.R.L.d,
 false = false,
 y2.R.D.n ≤ R.D.n,
 wdF y2.R.D.W = wdF R.D.W ∧ plainSh wSh = true ∨ ∀ (i : Nat), i < y2.R.D.n → rowOb wSh 0 (wdF R.D.W i) (wdF y2.R.D.W i),
 Both (MS.mk S.M (IntKind.i64.wrap (S.st + 1)) (LS.mk 1 5 0 0 (mget S.M (key 5 0 0)) (mget S.M (key 5 0 0)) false)) (rLoad R 5 0 0),
 0 ≤ mget S.M (key 5 0 0),
 tbN S.M = 0,
 (1 : Int) = 1,
 (0 : Int) = 0,
 (0 : Int) = 0,
 (0 : Int) = 0,
 R.D.n ≤ R.D.n,
 R.D.n ≤ 100000,
 0 ≤ dWord (dOf R.D.n (wdF R.D.W)) 5 0 0,
 rbN R.D.n (wdF R.D.W) = 0,
 decide (0 < Int.ofNat m) = false]) := by kernel_rfl
theorem ppwfc_1 (n : Nat) (g : Nat → Nat → AV) (m : Nat) (f : Nat → Nat → AV) (al : Nat) (b : Int) (kk : Nat) (S0 : MS) (R0 : RS) (y y2 : PS) : roundB ESp 4000 ppL ((ppU n g m f al b S0 R0).hp) [(11, Src.nm 16), (10, Src.nm 10), (12, Src.nm 12)] (ppW n g m f al b kk y) [Hint.b true, Hint.b false, Hint.b false, Hint.node [(3, [Hint.b false])]] (ppW n g m f al b (kk + 1) y2) =
 some (Ex.norm, [(0 : Nat) = 0,
 m = m,
 (none : Option Nat) = none,
 (0 : Nat) = 0,
 (0 : Nat) = 0,
 (0 : Nat) = 0,
 (0 : Nat) = 0,
 (0 : Nat) = 0,
 (0 : Nat) = 0,
 IntKind.i64.wrap (Int.ofNat (kk + 1) + 1) = Int.ofNat (kk + 1 + 1),
 IntKind.i64.wrap (Int.ofNat (kk + 1) + 1) = Int.ofNat (kk + 1 + 1),
 (0 : Nat) = 0,
 rtN y.fl (rdN y.fl y.ta) = rdN y2.fl y2.ta,
 (none : Option Nat) = none,
 b = b,
 rtL (rdN y.fl y.ta) y.fl y.R.D.n (wdF y.R.D.W) y.F = y2.fl,
 false = false,
 rdN y2.fl y2.ta ≤ rtN y.fl (rdN y.fl y.ta),
 y2.F = rtF (rdN y.fl y.ta) y.fl y.R.D.n (wdF y.R.D.W) y.F ∧ plainSh tSh = true ∨ ∀ (i : Nat), i < rdN y2.fl y2.ta → rowOb tSh 0 (rtF (rdN y.fl y.ta) y.fl y.R.D.n (wdF y.R.D.W) y.F i) (y2.F i),
 (0 : Nat) = 0,
 (0 : Nat) = 0,
 (0 : Nat) = 0,
 al = al,
 some al = some al,
 (0 : Int) = 0,
 tkAt y.S.M y.F y.ta y.fl = y2.ta,
 tkFl y.S.M y.F y.ta y.fl = y2.fl,
 Int.ofNat al = Int.ofNat al,
 false = false,
 al ≤ al,
 y2.F = tkF y.F y.ta y.fl (mget y.S.M (key 8 y.ta y.fl)) ∧ plainSh tSh = true ∨ ∀ (i : Nat), i < al → rowOb tSh 0 (tkF y.F y.ta y.fl (mget y.S.M (key 8 y.ta y.fl)) i) (y2.F i),
 (0 : Nat) = 0,
 (0 : Nat) = 0,
 (0 : Nat) = 0,
 (0 : Nat) = 0,
 true = true,
 n ≤ n,
 wdF (bgW g) = wdF (bgW g) ∧ plainSh wSh = true ∨ ∀ (i : Nat), i < n → rowOb wSh 0 (wdF (bgW g) i) (wdF (bgW g) i),
 true = true,
 m ≤ m,
 f = f ∧ plainSh wSh = true ∨ ∀ (i : Nat), i < m → rowOb wSh 0 (f i) (f i),
 IntKind.i64.wrap (y.S.st + 1) = y2.S.st,
 1 = y2.S.L.c,
 8 = y2.S.L.k,
 y.ta = y2.S.L.a,
 y.fl = y2.S.L.f,
 mget y.S.M (key 8 y.ta y.fl) = y2.S.L.w,
 mget y.S.M (key 8 y.ta y.fl) = y2.S.L.i,
 false = y2.S.L.d,
 ∀ (k : List Int), y.S.M k = y2.S.M k,
 (0 : Nat) = 0,
 y.R.D.n = y2.R.D.n,
 (none : Option Nat) = none,
 (rLoad y.R 8 (Int.ofNat (rtN y.fl (rdN y.fl y.ta) - 1)) y.fl).st = y2.R.st,
 1 = y2.R.L.c,
 8 = y2.R.L.k,
 (rLoad y.R 8 (Int.ofNat (rtN y.fl (rdN y.fl y.ta) - 1)) y.fl).L.a = y2.R.L.a,
 (rLoad y.R 8 (Int.ofNat (rtN y.fl (rdN y.fl y.ta) - 1)) y.fl).L.f = y2.R.L.f,
 (rLoad y.R 8 (Int.ofNat (rtN y.fl (rdN y.fl y.ta) - 1)) y.fl).L.w = y2.R.L.w,
 (rLoad y.R 8 (Int.ofNat (rtN y.fl (rdN y.fl y.ta) - 1)) y.fl).L.i = y2.R.L.i,
 (rLoad y.R 8 (Int.ofNat (rtN y.fl (rdN y.fl y.ta) - 1)) y.fl).L.d = y2.R.L.d,
 false = false,
 y2.R.D.n ≤ y.R.D.n,
 wdF y2.R.D.W = wdF y.R.D.W ∧ plainSh wSh = true ∨ ∀ (i : Nat), i < y2.R.D.n → rowOb wSh 0 (wdF y.R.D.W i) (wdF y2.R.D.W i),
 Both (MS.mk y.S.M (IntKind.i64.wrap (y.S.st + 1)) (LS.mk 1 8 y.ta y.fl (mget y.S.M (key 8 y.ta y.fl)) (mget y.S.M (key 8 y.ta y.fl)) false)) (rLoad y.R 8 (Int.ofNat (rtN y.fl (rdN y.fl y.ta) - 1)) y.fl),
 some al = some al,
 al = al,
 TkPre y.F y.ta y.fl (Int.ofNat al) al,
 tkAt y.S.M y.F y.ta y.fl ≠ Int.ofNat al,
 (2 : Int) = 2,
 (0 : Int) = 0,
 rdN y.fl y.ta = rdN y.fl y.ta,
 RtPre b y.fl (rtL (rdN y.fl y.ta) y.fl y.R.D.n (wdF y.R.D.W) y.F) (rdN y.fl y.ta) (rtN y.fl (rdN y.fl y.ta)) y.R.D.n y.R.D.n (wdF y.R.D.W) y.F (rtF (rdN y.fl y.ta) y.fl y.R.D.n (wdF y.R.D.W) y.F),
 ¬(rtL (rdN y.fl y.ta) y.fl y.R.D.n (wdF y.R.D.W) y.F = 0 ∧ Int.ofNat (rtN y.fl (rdN y.fl y.ta)) = 4 * b),
 decide (Int.ofNat (kk + 1) < Int.ofNat m) = false,
 decide (Int.ofNat (kk + 1) < 200) = true]) := by kernel_rfl
theorem ppwfo_1 (n : Nat) (g : Nat → Nat → AV) (m : Nat) (f : Nat → Nat → AV) (al : Nat) (b : Int) (kk : Nat) (S0 : MS) (R0 : RS) (y y2 : PS) : roundB ESp 4000 ppL ((ppU n g m f al b S0 R0).hp) [(11, Src.nm 16), (10, Src.nm 10), (12, Src.nm 12)] (ppW n g m f al b kk y) [Hint.b true, Hint.b false, Hint.b true, Hint.node [(3, [Hint.b true])]] (ppO n g m f al b (kk + 1) y2) =
 some (Ex.norm, [(0 : Nat) = 0,
 m = m,
 (none : Option Nat) = none,
 (0 : Nat) = 0,
 (0 : Nat) = 0,
 (0 : Nat) = 0,
 (0 : Nat) = 0,
 (0 : Nat) = 0,
 (0 : Nat) = 0,
 IntKind.i64.wrap (Int.ofNat (kk + 1) + 1) = Int.ofNat (kk + 1 + 1),
 IntKind.i64.wrap (Int.ofNat (kk + 1) + 1) = Int.ofNat (kk + 1 + 1),
 (0 : Nat) = 0,
 rtN y.fl (rdN y.fl y.ta) = rdN y2.fl y2.ta,
 (none : Option Nat) = none,
 b = b,
 rtL (rdN y.fl y.ta) y.fl y.R.D.n (wdF y.R.D.W) y.F = y2.fl,
 false = false,
 rdN y2.fl y2.ta ≤ rtN y.fl (rdN y.fl y.ta),
 y2.F = rtF (rdN y.fl y.ta) y.fl y.R.D.n (wdF y.R.D.W) y.F ∧ plainSh tSh = true ∨ ∀ (i : Nat), i < rdN y2.fl y2.ta → rowOb tSh 0 (rtF (rdN y.fl y.ta) y.fl y.R.D.n (wdF y.R.D.W) y.F i) (y2.F i),
 (0 : Nat) = 0,
 al = al,
 some al = some al,
 (0 : Int) = 0,
 tkAt y.S.M y.F y.ta y.fl = y2.ta,
 tkFl y.S.M y.F y.ta y.fl = y2.fl,
 Int.ofNat al = Int.ofNat al,
 false = false,
 al ≤ al,
 y2.F = tkF y.F y.ta y.fl (mget y.S.M (key 8 y.ta y.fl)) ∧ plainSh tSh = true ∨ ∀ (i : Nat), i < al → rowOb tSh 0 (tkF y.F y.ta y.fl (mget y.S.M (key 8 y.ta y.fl)) i) (y2.F i),
 (0 : Nat) = 0,
 (0 : Nat) = 0,
 (0 : Nat) = 0,
 (0 : Nat) = 0,
 true = true,
 n ≤ n,
 wdF (bgW g) = wdF (bgW g) ∧ plainSh wSh = true ∨ ∀ (i : Nat), i < n → rowOb wSh 0 (wdF (bgW g) i) (wdF (bgW g) i),
 true = true,
 m ≤ m,
 f = f ∧ plainSh wSh = true ∨ ∀ (i : Nat), i < m → rowOb wSh 0 (f i) (f i),
 IntKind.i64.wrap (y.S.st + 1) = y2.S.st,
 1 = y2.S.L.c,
 8 = y2.S.L.k,
 y.ta = y2.S.L.a,
 y.fl = y2.S.L.f,
 mget y.S.M (key 8 y.ta y.fl) = y2.S.L.w,
 mget y.S.M (key 8 y.ta y.fl) = y2.S.L.i,
 false = y2.S.L.d,
 ∀ (k : List Int), y.S.M k = y2.S.M k,
 (0 : Nat) = 0,
 y.R.D.n = y2.R.D.n,
 (none : Option Nat) = none,
 (rLoad y.R 8 (Int.ofNat (rtN y.fl (rdN y.fl y.ta) - 1)) y.fl).st = y2.R.st,
 1 = y2.R.L.c,
 8 = y2.R.L.k,
 (rLoad y.R 8 (Int.ofNat (rtN y.fl (rdN y.fl y.ta) - 1)) y.fl).L.a = y2.R.L.a,
 (rLoad y.R 8 (Int.ofNat (rtN y.fl (rdN y.fl y.ta) - 1)) y.fl).L.f = y2.R.L.f,
 (rLoad y.R 8 (Int.ofNat (rtN y.fl (rdN y.fl y.ta) - 1)) y.fl).L.w = y2.R.L.w,
 (rLoad y.R 8 (Int.ofNat (rtN y.fl (rdN y.fl y.ta) - 1)) y.fl).L.i = y2.R.L.i,
 (rLoad y.R 8 (Int.ofNat (rtN y.fl (rdN y.fl y.ta) - 1)) y.fl).L.d = y2.R.L.d,
 false = false,
 y2.R.D.n ≤ y.R.D.n,
 wdF y2.R.D.W = wdF y.R.D.W ∧ plainSh wSh = true ∨ ∀ (i : Nat), i < y2.R.D.n → rowOb wSh 0 (wdF y.R.D.W i) (wdF y2.R.D.W i),
 Both (MS.mk y.S.M (IntKind.i64.wrap (y.S.st + 1)) (LS.mk 1 8 y.ta y.fl (mget y.S.M (key 8 y.ta y.fl)) (mget y.S.M (key 8 y.ta y.fl)) false)) (rLoad y.R 8 (Int.ofNat (rtN y.fl (rdN y.fl y.ta) - 1)) y.fl),
 some al = some al,
 al = al,
 TkPre y.F y.ta y.fl (Int.ofNat al) al,
 tkAt y.S.M y.F y.ta y.fl = Int.ofNat al,
 (2 : Int) = 2,
 (0 : Int) = 0,
 rdN y.fl y.ta = rdN y.fl y.ta,
 RtPre b y.fl (rtL (rdN y.fl y.ta) y.fl y.R.D.n (wdF y.R.D.W) y.F) (rdN y.fl y.ta) (rtN y.fl (rdN y.fl y.ta)) y.R.D.n y.R.D.n (wdF y.R.D.W) y.F (rtF (rdN y.fl y.ta) y.fl y.R.D.n (wdF y.R.D.W) y.F),
 rtL (rdN y.fl y.ta) y.fl y.R.D.n (wdF y.R.D.W) y.F = 0 ∧ Int.ofNat (rtN y.fl (rdN y.fl y.ta)) = 4 * b,
 decide (Int.ofNat (kk + 1) < Int.ofNat m) = false,
 decide (Int.ofNat (kk + 1) < 200) = true]) := by kernel_rfl
theorem ppx_1 (n : Nat) (g : Nat → Nat → AV) (m : Nat) (f : Nat → Nat → AV) (al : Nat) (b : Int) (kk : Nat) (S0 : MS) (R0 : RS) (y y2 : PS) : roundB ESp 4000 ppL ((ppU n g m f al b S0 R0).hp) [(11, Src.nm 11), (10, Src.nm 10), (12, Src.nm 12)] (ppO n g m f al b kk y) [Hint.b true] (ppX n g m f al b kk y) =
 some (Ex.exit 0, [(0 : Nat) = 0,
 (0 : Nat) = 0,
 (0 : Nat) = 0,
 (0 : Nat) = 0,
 (0 : Nat) = 0,
 (0 : Nat) = 0,
 Int.ofNat (kk + 1) = Int.ofNat (kk + 1),
 (0 : Nat) = 0,
 rdN y.fl y.ta = rdN y.fl y.ta,
 (none : Option Nat) = none,
 b = b,
 y.fl = y.fl,
 false = false,
 rdN y.fl y.ta ≤ rdN y.fl y.ta,
 y.F = y.F ∧ plainSh tSh = true ∨ ∀ (i : Nat), i < rdN y.fl y.ta → rowOb tSh 0 (y.F i) (y.F i),
 (0 : Nat) = 0,
 al = al,
 some al = some al,
 (0 : Int) = 0,
 y.ta = y.ta,
 y.fl = y.fl,
 Int.ofNat al = Int.ofNat al,
 false = false,
 al ≤ al,
 y.F = y.F ∧ plainSh tSh = true ∨ ∀ (i : Nat), i < al → rowOb tSh 0 (y.F i) (y.F i),
 (0 : Nat) = 0,
 (0 : Nat) = 0,
 (0 : Nat) = 0,
 (0 : Nat) = 0,
 true = true,
 n ≤ n,
 wdF (bgW g) = wdF (bgW g) ∧ plainSh wSh = true ∨ ∀ (i : Nat), i < n → rowOb wSh 0 (wdF (bgW g) i) (wdF (bgW g) i),
 true = true,
 m ≤ m,
 f = f ∧ plainSh wSh = true ∨ ∀ (i : Nat), i < m → rowOb wSh 0 (f i) (f i),
 y.S.st = y.S.st,
 y.S.L.c = y.S.L.c,
 y.S.L.k = y.S.L.k,
 y.S.L.a = y.S.L.a,
 y.S.L.f = y.S.L.f,
 y.S.L.w = y.S.L.w,
 y.S.L.i = y.S.L.i,
 y.S.L.d = y.S.L.d,
 ∀ (k : List Int), y.S.M k = y.S.M k,
 (0 : Nat) = 0,
 y.R.D.n = y.R.D.n,
 (none : Option Nat) = none,
 y.R.st = y.R.st,
 y.R.L.c = y.R.L.c,
 y.R.L.k = y.R.L.k,
 y.R.L.a = y.R.L.a,
 y.R.L.f = y.R.L.f,
 y.R.L.w = y.R.L.w,
 y.R.L.i = y.R.L.i,
 y.R.L.d = y.R.L.d,
 false = false,
 y.R.D.n ≤ y.R.D.n,
 wdF y.R.D.W = wdF y.R.D.W ∧ plainSh wSh = true ∨ ∀ (i : Nat), i < y.R.D.n → rowOb wSh 0 (wdF y.R.D.W i) (wdF y.R.D.W i),
 decide (Int.ofNat (kk + 1) < 200) = true]) := by kernel_rfl
theorem ppy_1 (n : Nat) (g : Nat → Nat → AV) (m : Nat) (f : Nat → Nat → AV) (al : Nat) (b : Int) (kk : Nat) (S0 : MS) (R0 : RS) (y y2 : PS) : roundB ESp 4000 ppL ((ppU n g m f al b S0 R0).hp) [(10, Src.nm 10), (12, Src.nm 12)] (ppZ n g m f al b y) [Hint.b true] (ppY n g m f al b y) =
 some (Ex.exit 0, [(0 : Nat) = 0,
 (0 : Nat) = 0,
 (0 : Nat) = 0,
 (0 : Nat) = 0,
 (0 : Nat) = 0,
 (0 : Nat) = 0,
 (1 : Int) = 1,
 b = b,
 (0 : Nat) = 0,
 (0 : Nat) = 0,
 some 0 = some 0,
 (0 : Int) = 0,
 (0 : Int) = 0,
 (0 : Int) = 0,
 (0 : Int) = 0,
 false = false,
 (0 : Nat) ≤ (0 : Nat),
 tF0 = tF0 ∧ plainSh tSh = true ∨ ∀ (i : Nat), i < 0 → rowOb tSh 0 (tF0 i) (tF0 i),
 (0 : Nat) = 0,
 (0 : Nat) = 0,
 (0 : Nat) = 0,
 (0 : Nat) = 0,
 true = true,
 n ≤ n,
 wdF (bgW g) = wdF (bgW g) ∧ plainSh wSh = true ∨ ∀ (i : Nat), i < n → rowOb wSh 0 (wdF (bgW g) i) (wdF (bgW g) i),
 true = true,
 m ≤ m,
 f = f ∧ plainSh wSh = true ∨ ∀ (i : Nat), i < m → rowOb wSh 0 (f i) (f i),
 y.S.st = y.S.st,
 y.S.L.c = y.S.L.c,
 y.S.L.k = y.S.L.k,
 y.S.L.a = y.S.L.a,
 y.S.L.f = y.S.L.f,
 y.S.L.w = y.S.L.w,
 y.S.L.i = y.S.L.i,
 y.S.L.d = y.S.L.d,
 ∀ (k : List Int), y.S.M k = y.S.M k,
 (0 : Nat) = 0,
 y.R.D.n = y.R.D.n,
 (none : Option Nat) = none,
 y.R.st = y.R.st,
 y.R.L.c = y.R.L.c,
 y.R.L.k = y.R.L.k,
 y.R.L.a = y.R.L.a,
 y.R.L.f = y.R.L.f,
 y.R.L.w = y.R.L.w,
 y.R.L.i = y.R.L.i,
 y.R.L.d = y.R.L.d,
 false = false,
 y.R.D.n ≤ y.R.D.n,
 wdF y.R.D.W = wdF y.R.D.W ∧ plainSh wSh = true ∨ ∀ (i : Nat), i < y.R.D.n → rowOb wSh 0 (wdF y.R.D.W i) (wdF y.R.D.W i),
 decide ((1 : Int) < (200 : Int)) = true]) := by kernel_rfl
theorem ppi_1 (n : Nat) (g : Nat → Nat → AV) (m : Nat) (f : Nat → Nat → AV) (al : Nat) (b : Int) (S : MS) (R : RS) : castSt ((ppU n g m f al b S R).hp) [] (ppU n g m f al b S R) (ppU n g m f al b S R) =
 some ([(0 : Nat) = 0,
 m = m,
 (none : Option Nat) = none,
 (0 : Nat) = 0,
 (0 : Nat) = 0,
 (0 : Nat) = 0,
 (0 : Nat) = 0,
 (0 : Nat) = 0,
 (0 : Nat) = 0,
 (0 : Nat) = 0,
 (0 : Nat) = 0,
 (0 : Nat) = 0,
 (0 : Nat) = 0,
 (0 : Nat) = 0,
 (0 : Nat) = 0,
 true = true,
 n ≤ n,
 wdF (bgW g) = wdF (bgW g) ∧ plainSh wSh = true ∨ ∀ (i : Nat), i < n → rowOb wSh 0 (wdF (bgW g) i) (wdF (bgW g) i),
 true = true,
 m ≤ m,
 f = f ∧ plainSh wSh = true ∨ ∀ (i : Nat), i < m → rowOb wSh 0 (f i) (f i),
 S.st = S.st,
 S.L.c = S.L.c,
 S.L.k = S.L.k,
 S.L.a = S.L.a,
 S.L.f = S.L.f,
 S.L.w = S.L.w,
 S.L.i = S.L.i,
 S.L.d = S.L.d,
 ∀ (k : List Int), S.M k = S.M k,
 (0 : Nat) = 0,
 R.D.n = R.D.n,
 (none : Option Nat) = none,
 R.st = R.st,
 R.L.c = R.L.c,
 R.L.k = R.L.k,
 R.L.a = R.L.a,
 R.L.f = R.L.f,
 R.L.w = R.L.w,
 R.L.i = R.L.i,
 R.L.d = R.L.d,
 false = false,
 R.D.n ≤ R.D.n,
 wdF R.D.W = wdF R.D.W ∧ plainSh wSh = true ∨ ∀ (i : Nat), i < R.D.n → rowOb wSh 0 (wdF R.D.W i) (wdF R.D.W i)]) := by kernel_rfl
attribute [local irreducible] psN tkAt tkFl tkF tbN rbN rtL rtN rtF mget memPut dPut dWord psM psR
theorem pp_lp (n : Nat) (g : Nat → Nat → AV) (m : Nat) (f : Nat → Nat → AV) (al : Nat) (b : Int) (S : MS) (R : RS) (K : Nat) (hK : K < 190) (hok : PpOk m f al b S R K) (hK0 : 0 < K) (ha0 : al ≠ 0) : ppLP n g m f al b S R K (psN m f S R K) := by
  refine loop_rule ESp_ok (I := PI) (fun i => ppT n g m f al b K S R i) (ppMu K) (ppI K) ?_ (fun ii hi => ?_)
  ·
    refine ⟨PI.b, [], _, trivial, ppi_1 .., (ob_cons rfl (ob_cons rfl (ob_cons rfl (ob_cons rfl (ob_cons rfl (ob_cons rfl (ob_cons rfl (ob_cons rfl (ob_cons rfl (ob_cons rfl (ob_cons rfl (ob_cons rfl (ob_cons rfl (ob_cons rfl (ob_cons rfl (ob_cons rfl (ob_cons (Nat.le_refl _) (ob_cons (.inl ⟨rfl, rfl⟩) (ob_cons rfl (ob_cons (Nat.le_refl _) (ob_cons (.inl ⟨rfl, rfl⟩) (ob_cons rfl (ob_cons rfl (ob_cons rfl (ob_cons rfl (ob_cons rfl (ob_cons rfl (ob_cons rfl (ob_cons rfl (ob_cons (fun _ => rfl) (ob_cons rfl (ob_cons rfl (ob_cons rfl (ob_cons rfl (ob_cons rfl (ob_cons rfl (ob_cons rfl (ob_cons rfl (ob_cons rfl (ob_cons rfl (ob_cons rfl (ob_cons rfl (ob_cons (Nat.le_refl _) (ob_cons (.inl ⟨rfl, rfl⟩) ob_nil))))))))))))))))))))))))))))))))))))))))))))⟩
  have hb0 : b ≠ 0 := fun e => ha0 (by have := hok.bal; rw [e] at this; simpa using this)
  rcases ii with _ | kk | _ | _
  · by_cases hcc : 0 < m
    ·
      have hd : decide (0 < Int.ofNat m) = true := decide_eq_true (by simp; omega)
      have hb1 : Nat.blt 0 m = true := Nat.ble_eq_true_of_le hcc
      have hb2 : (Nat.blt 0 m && decide ((0 : Int) ≤ 0)) = true := by rw [hb1]; rfl
      have hr0 := hok.r 0 hcc
      have hM := psM_pos (f := f) S hcc
      have hR := psR_pos (f := f) R hcc
      have hy : psN m f S R 0 = psZ (psM m f 0 S) (psR m f 0 R) := psN_zero ..
      have hbo := hok.both 0
      have hn1 := hok.num1
      obtain ⟨hw1, hw2⟩ := hok.w0
      have hrb := hok.rb
      have htb1 := hok.tb
      rw [hy] at hbo
      rw [hR] at hn1 hw2 hrb
      rw [hM] at hw1 htb1
      rw [hM, hR] at hy hbo
      have htb2 := congrArg Int.toNat htb1
      have htb3 := congrArg some htb2
      have hn2 := hok.num0
      have hrb0 := trivial
      have htbn : tbN (mStore S (avInt (f (0 + 0) 0)) (avInt (f (0 + 0) 1)) (avInt (f (0 + 0) 2)) (avInt (f (0 + 0) 3))).M ≠ 0 := by rw [htb1]; intro e; exact ha0 (by simpa using e)
      have hrn : rbN (rStore R (avInt (f (0 + 0) 0)) (avInt (f (0 + 0) 1)) (avInt (f (0 + 0) 2)) (avInt (f (0 + 0) 3))).D.n (wdF (rStore R (avInt (f (0 + 0) 0)) (avInt (f (0 + 0) 1)) (avInt (f (0 + 0) 2)) (avInt (f (0 + 0) 3))).D.W) ≠ 0 := by rw [hrb]; exact hb0
      refine round_norm (s0 := ppU n g m f al b S R) (T := fun i => ppT n g m f al b K S R i) (i := PI.b) (PI.w 0) (ppbtn_1 n g m f al b S S R R (psN m f S R 0)) (ob_cons rfl (ob_cons rfl (ob_cons rfl (ob_cons rfl (ob_cons rfl (ob_cons rfl (ob_cons rfl (ob_cons rfl (ob_cons rfl (ob_cons rfl (ob_cons rfl (ob_cons rfl (ob_cons ?_ (ob_cons rfl (ob_cons ?_ (ob_cons ?_ (ob_cons ?_ (ob_cons rfl (ob_cons rfl (ob_cons rfl (ob_cons ?_ (ob_cons ?_ (ob_cons rfl (ob_cons ?_ (ob_cons ?_ (ob_cons ?_ (ob_cons rfl (ob_cons ?_ (ob_cons ?_ (ob_cons rfl (ob_cons rfl (ob_cons rfl (ob_cons rfl (ob_cons rfl (ob_cons (Nat.le_refl _) (ob_cons (.inl ⟨rfl, rfl⟩) (ob_cons rfl (ob_cons (Nat.le_refl _) (ob_cons (.inl ⟨rfl, rfl⟩) (ob_cons ?_ (ob_cons ?_ (ob_cons ?_ (ob_cons ?_ (ob_cons ?_ (ob_cons ?_ (ob_cons ?_ (ob_cons ?_ (ob_cons ?_ (ob_cons rfl (ob_cons ?_ (ob_cons rfl (ob_cons ?_ (ob_cons ?_ (ob_cons ?_ (ob_cons ?_ (ob_cons ?_ (ob_cons ?_ (ob_cons ?_ (ob_cons ?_ (ob_cons rfl (ob_cons ?_ (ob_cons ?_ (ob_cons ?_ (ob_cons ?_ (ob_cons ?_ (ob_cons rfl (ob_cons rfl (ob_cons rfl (ob_cons rfl (ob_cons (Nat.le_refl _) (ob_cons ?_ (ob_cons ?_ (ob_cons ?_ (ob_cons (Nat.le_refl _) (ob_cons ?_ (ob_cons ?_ (ob_cons ?_ (ob_cons ?_ (ob_cons ?_ ob_nil))))))))))))))))))))))))))))))))))))))))))))))))))))))))))))))))))))))))))))))) (by show 0 < K; omega) (by show K + 1 - 0 < K + 2; omega)
      · (rw [hy]; rfl)
      · exact hrb
      · (rw [hy]; rfl)
      · (rw [hy]; rfl)
      · exact htb2
      · exact htb3
      · (rw [hy]; rfl)
      · (rw [hy]; rfl)
      · exact htb1
      · exact Nat.le_of_eq htb2.symm
      · exact .inl ⟨by rw [hy]; rfl, rfl⟩
      · (rw [hy]; rfl)
      · (rw [hy]; rfl)
      · (rw [hy]; rfl)
      · (rw [hy]; rfl)
      · (rw [hy]; rfl)
      · (rw [hy]; rfl)
      · (rw [hy]; rfl)
      · (rw [hy]; rfl)
      · (rw [hy]; exact fun _ => rfl)
      · (rw [hy]; rfl)
      · (rw [hy]; rfl)
      · (rw [hy]; rfl)
      · (rw [hy]; rfl)
      · (rw [hy]; rfl)
      · (rw [hy]; rfl)
      · (rw [hy]; rfl)
      · (rw [hy]; rfl)
      · (rw [hy]; rfl)
      · (rw [hy]; exact Nat.le_refl _)
      · exact .inl ⟨by rw [hy]; rfl, rfl⟩
      · exact hbo
      · exact hw1
      · exact htbn
      · exact hn1
      · exact hw2
      · exact hrn
      · with_reducible assumption
      · with_reducible assumption
      · with_reducible assumption
      · with_reducible assumption
      · with_reducible assumption
    ·
      have hd : decide (0 < Int.ofNat m) = false := decide_eq_false (by simp; omega)
      have hM := psM_neg (f := f) S hcc
      have hR := psR_neg (f := f) R hcc
      have hy : psN m f S R 0 = psZ (psM m f 0 S) (psR m f 0 R) := psN_zero ..
      have hbo := hok.both 0
      have hn1 := hok.num1
      obtain ⟨hw1, hw2⟩ := hok.w0
      have hrb := hok.rb
      have htb1 := hok.tb
      rw [hy] at hbo
      rw [hR] at hn1 hw2 hrb
      rw [hM] at hw1 htb1
      rw [hM, hR] at hy hbo
      have htb2 := congrArg Int.toNat htb1
      have htb3 := congrArg some htb2
      have hn2 := hok.num0
      have hrb0 := trivial
      have htbn : tbN S.M ≠ 0 := by rw [htb1]; intro e; exact ha0 (by simpa using e)
      have hrn : rbN R.D.n (wdF R.D.W) ≠ 0 := by rw [hrb]; exact hb0
      refine round_norm (s0 := ppU n g m f al b S R) (T := fun i => ppT n g m f al b K S R i) (i := PI.b) (PI.w 0) (ppbfn_1 n g m f al b S S R R (psN m f S R 0)) (ob_cons rfl (ob_cons rfl (ob_cons rfl (ob_cons rfl (ob_cons rfl (ob_cons rfl (ob_cons rfl (ob_cons rfl (ob_cons rfl (ob_cons rfl (ob_cons rfl (ob_cons rfl (ob_cons ?_ (ob_cons rfl (ob_cons ?_ (ob_cons ?_ (ob_cons ?_ (ob_cons rfl (ob_cons rfl (ob_cons rfl (ob_cons ?_ (ob_cons ?_ (ob_cons rfl (ob_cons ?_ (ob_cons ?_ (ob_cons ?_ (ob_cons rfl (ob_cons ?_ (ob_cons ?_ (ob_cons rfl (ob_cons rfl (ob_cons rfl (ob_cons rfl (ob_cons rfl (ob_cons (Nat.le_refl _) (ob_cons (.inl ⟨rfl, rfl⟩) (ob_cons rfl (ob_cons (Nat.le_refl _) (ob_cons (.inl ⟨rfl, rfl⟩) (ob_cons ?_ (ob_cons ?_ (ob_cons ?_ (ob_cons ?_ (ob_cons ?_ (ob_cons ?_ (ob_cons ?_ (ob_cons ?_ (ob_cons ?_ (ob_cons rfl (ob_cons ?_ (ob_cons rfl (ob_cons ?_ (ob_cons ?_ (ob_cons ?_ (ob_cons ?_ (ob_cons ?_ (ob_cons ?_ (ob_cons ?_ (ob_cons ?_ (ob_cons rfl (ob_cons ?_ (ob_cons ?_ (ob_cons ?_ (ob_cons ?_ (ob_cons ?_ (ob_cons rfl (ob_cons rfl (ob_cons rfl (ob_cons rfl (ob_cons (Nat.le_refl _) (ob_cons ?_ (ob_cons ?_ (ob_cons ?_ (ob_cons ?_ ob_nil)))))))))))))))))))))))))))))))))))))))))))))))))))))))))))))))))))))))))) (by show 0 < K; omega) (by show K + 1 - 0 < K + 2; omega)
      · (rw [hy]; rfl)
      · with_reducible assumption
      · (rw [hy]; rfl)
      · (rw [hy]; rfl)
      · exact htb2
      · exact htb3
      · (rw [hy]; rfl)
      · (rw [hy]; rfl)
      · with_reducible assumption
      · exact Nat.le_of_eq htb2.symm
      · exact .inl ⟨by rw [hy]; rfl, rfl⟩
      · (rw [hy]; rfl)
      · (rw [hy]; rfl)
      · (rw [hy]; rfl)
      · (rw [hy]; rfl)
      · (rw [hy]; rfl)
      · (rw [hy]; rfl)
      · (rw [hy]; rfl)
      · (rw [hy]; rfl)
      · (rw [hy]; exact fun _ => rfl)
      · (rw [hy]; rfl)
      · (rw [hy]; rfl)
      · (rw [hy]; rfl)
      · (rw [hy]; rfl)
      · (rw [hy]; rfl)
      · (rw [hy]; rfl)
      · (rw [hy]; rfl)
      · (rw [hy]; rfl)
      · (rw [hy]; rfl)
      · (rw [hy]; exact Nat.le_refl _)
      · exact .inl ⟨by rw [hy]; rfl, rfl⟩
      · exact hbo
      · with_reducible assumption
      · with_reducible assumption
      · with_reducible assumption
      · exact hw2
      · with_reducible assumption
      · with_reducible assumption
  · have hk : kk < K := hi
    have hi2 : decide (Int.ofNat (kk + 1) < (200 : Int)) = true := decide_eq_true (by simp; omega)
    have hwi : IntKind.i64.wrap (Int.ofNat (kk + 1) + 1) = Int.ofNat (kk + 1 + 1) := wrap_nat64 _ (by simp; omega) (by simp; omega)
    have hpre := hok.pre kk hk
    have hrt := hok.rt kk hk
    have hq1 := hok.eN kk hk
    have hq2 := hok.eL kk hk
    have hx := hok.eA kk hk
    have hq3 := hok.eF kk hk
    have hgr := hok.gr kk hk
    have hbo := hok.both (kk + 1)
    have hn1 := (hok.num (kk + 1) (by omega)).1
    have hn2 := (hok.num kk (by omega)).2
    have hy := psN_succ m f S R kk
    rw [hy] at hbo
    rw [Nat.add_sub_cancel] at hn1
    by_cases hcc : kk + 1 < m
    ·
      have hd : decide (Int.ofNat (kk + 1) < Int.ofNat m) = true := decide_eq_true (by simp; omega)
      have hb2 : (Nat.blt (kk + 1) m && decide (0 ≤ Int.ofNat (kk + 1))) = true := by rw [Bool.and_eq_true]; exact ⟨Nat.ble_eq_true_of_le hcc, decide_eq_true (show (0 : Int) ≤ Int.ofNat (kk + 1) from Int.natCast_nonneg _)⟩
      have hb1 : Nat.blt (0 + (kk + 1)) m = true := by rw [Nat.zero_add]; exact Nat.ble_eq_true_of_le hcc
      have hr0 : 0 ≤ avInt (f (0 + (kk + 1)) 0) := by rw [Nat.zero_add]; exact hok.r (kk + 1) hcc
      have hM := psM_pos (f := f) (psN m f S R kk).S hcc
      have hR := psR_pos (f := f) (psN m f S R kk).R hcc
      rw [hM, hR] at hy hbo
      rw [hR] at hrt hq2 hq3 hn1 hgr
      by_cases hl : kk + 1 = K
      · subst hl
        have hta : tkAt (mStore (psN m f S R kk).S (avInt (f (0 + (kk + 1)) 0)) (avInt (f (0 + (kk + 1)) 1)) (avInt (f (0 + (kk + 1)) 2)) (avInt (f (0 + (kk + 1)) 3))).M (psN m f S R kk).F (psN m f S R kk).ta (psN m f S R kk).fl = Int.ofNat al := by
          have := hok.ov; rw [hy] at this; exact this
        have hq4 := hgr.2 hok.ov
        refine round_norm (s0 := ppU n g m f al b S R) (T := fun i => ppT n g m f al b (kk + 1) S R i) (i := PI.w kk) PI.o (ppwto_1 n g m f al b kk S R (psN m f S R kk) (psN m f S R (kk + 1))) (ob_cons rfl (ob_cons rfl (ob_cons rfl (ob_cons rfl (ob_cons rfl (ob_cons rfl (ob_cons rfl (ob_cons rfl (ob_cons rfl (ob_cons ?_ (ob_cons ?_ (ob_cons rfl (ob_cons ?_ (ob_cons rfl (ob_cons rfl (ob_cons ?_ (ob_cons rfl (ob_cons ?_ (ob_cons ?_ (ob_cons rfl (ob_cons rfl (ob_cons rfl (ob_cons rfl (ob_cons ?_ (ob_cons ?_ (ob_cons rfl (ob_cons rfl (ob_cons (Nat.le_refl _) (ob_cons ?_ (ob_cons rfl (ob_cons rfl (ob_cons rfl (ob_cons rfl (ob_cons rfl (ob_cons (Nat.le_refl _) (ob_cons (.inl ⟨rfl, rfl⟩) (ob_cons rfl (ob_cons (Nat.le_refl _) (ob_cons (.inl ⟨rfl, rfl⟩) (ob_cons ?_ (ob_cons ?_ (ob_cons ?_ (ob_cons ?_ (ob_cons ?_ (ob_cons ?_ (ob_cons ?_ (ob_cons ?_ (ob_cons ?_ (ob_cons rfl (ob_cons ?_ (ob_cons rfl (ob_cons ?_ (ob_cons ?_ (ob_cons ?_ (ob_cons ?_ (ob_cons ?_ (ob_cons ?_ (ob_cons ?_ (ob_cons ?_ (ob_cons rfl (ob_cons ?_ (ob_cons ?_ (ob_cons ?_ (ob_cons rfl (ob_cons rfl (ob_cons ?_ (ob_cons ?_ (ob_cons rfl (ob_cons rfl (ob_cons rfl (ob_cons ?_ (ob_cons ?_ (ob_cons (Nat.le_refl _) (ob_cons ?_ (ob_cons ?_ (ob_cons ?_ (ob_cons ?_ (ob_cons ?_ (ob_cons ?_ ob_nil))))))))))))))))))))))))))))))))))))))))))))))))))))))))))))))))))))))))))))))) (by show 0 < kk + 1; omega) (by show 0 < kk + 1 + 1 - kk; omega)
        · with_reducible assumption
        · with_reducible assumption
        · with_reducible assumption
        · exact hq2
        · omega
        · exact .inl ⟨hq3, rfl⟩
        · (rw [hy]; rfl)
        · (rw [hy]; rfl)
        · exact .inl ⟨by rw [hy]; rfl, rfl⟩
        · (rw [hy]; rfl)
        · (rw [hy]; rfl)
        · (rw [hy]; rfl)
        · (rw [hy]; rfl)
        · (rw [hy]; rfl)
        · (rw [hy]; rfl)
        · (rw [hy]; rfl)
        · (rw [hy]; rfl)
        · (rw [hy]; exact fun _ => rfl)
        · (rw [hy]; rfl)
        · (rw [hx, hy]; rfl)
        · (rw [hy]; rfl)
        · (rw [hy]; rfl)
        · (rw [hx, hy]; rfl)
        · (rw [hx, hy]; rfl)
        · (rw [hx, hy]; rfl)
        · (rw [hx, hy]; rfl)
        · (rw [hx, hy]; rfl)
        · (rw [hy]; exact Nat.le_refl _)
        · exact .inl ⟨by rw [hy]; rfl, rfl⟩
        · (rw [hx]; exact hbo)
        · with_reducible assumption
        · exact hta
        · exact hrt
        · exact hq4
        · with_reducible assumption
        · with_reducible assumption
        · with_reducible assumption
        · with_reducible assumption
        · with_reducible assumption
        · with_reducible assumption
      · have hne := hok.go (kk + 1) (by omega)
        have hq4 := fun e => hne (hgr.1 e)
        rw [hy] at hne
        refine round_norm (s0 := ppU n g m f al b S R) (T := fun i => ppT n g m f al b K S R i) (i := PI.w kk) (PI.w (kk + 1)) (ppwtc_1 n g m f al b kk S R (psN m f S R kk) (psN m f S R (kk + 1))) (ob_cons rfl (ob_cons rfl (ob_cons rfl (ob_cons rfl (ob_cons rfl (ob_cons rfl (ob_cons rfl (ob_cons rfl (ob_cons rfl (ob_cons ?_ (ob_cons ?_ (ob_cons rfl (ob_cons ?_ (ob_cons rfl (ob_cons rfl (ob_cons ?_ (ob_cons rfl (ob_cons ?_ (ob_cons ?_ (ob_cons rfl (ob_cons rfl (ob_cons rfl (ob_cons rfl (ob_cons rfl (ob_cons rfl (ob_cons ?_ (ob_cons ?_ (ob_cons rfl (ob_cons rfl (ob_cons (Nat.le_refl _) (ob_cons ?_ (ob_cons rfl (ob_cons rfl (ob_cons rfl (ob_cons rfl (ob_cons rfl (ob_cons (Nat.le_refl _) (ob_cons (.inl ⟨rfl, rfl⟩) (ob_cons rfl (ob_cons (Nat.le_refl _) (ob_cons (.inl ⟨rfl, rfl⟩) (ob_cons ?_ (ob_cons ?_ (ob_cons ?_ (ob_cons ?_ (ob_cons ?_ (ob_cons ?_ (ob_cons ?_ (ob_cons ?_ (ob_cons ?_ (ob_cons rfl (ob_cons ?_ (ob_cons rfl (ob_cons ?_ (ob_cons ?_ (ob_cons ?_ (ob_cons ?_ (ob_cons ?_ (ob_cons ?_ (ob_cons ?_ (ob_cons ?_ (ob_cons rfl (ob_cons ?_ (ob_cons ?_ (ob_cons ?_ (ob_cons rfl (ob_cons rfl (ob_cons ?_ (ob_cons ?_ (ob_cons rfl (ob_cons rfl (ob_cons rfl (ob_cons ?_ (ob_cons ?_ (ob_cons (Nat.le_refl _) (ob_cons ?_ (ob_cons ?_ (ob_cons ?_ (ob_cons ?_ (ob_cons ?_ (ob_cons ?_ ob_nil))))))))))))))))))))))))))))))))))))))))))))))))))))))))))))))))))))))))))))))))) (by show kk + 1 < K; omega) (by show K + 1 - (kk + 1) < K + 1 - kk; omega)
        · with_reducible assumption
        · with_reducible assumption
        · with_reducible assumption
        · exact hq2
        · omega
        · exact .inl ⟨hq3, rfl⟩
        · (rw [hy]; rfl)
        · (rw [hy]; rfl)
        · exact .inl ⟨by rw [hy]; rfl, rfl⟩
        · (rw [hy]; rfl)
        · (rw [hy]; rfl)
        · (rw [hy]; rfl)
        · (rw [hy]; rfl)
        · (rw [hy]; rfl)
        · (rw [hy]; rfl)
        · (rw [hy]; rfl)
        · (rw [hy]; rfl)
        · (rw [hy]; exact fun _ => rfl)
        · (rw [hy]; rfl)
        · (rw [hx, hy]; rfl)
        · (rw [hy]; rfl)
        · (rw [hy]; rfl)
        · (rw [hx, hy]; rfl)
        · (rw [hx, hy]; rfl)
        · (rw [hx, hy]; rfl)
        · (rw [hx, hy]; rfl)
        · (rw [hx, hy]; rfl)
        · (rw [hy]; exact Nat.le_refl _)
        · exact .inl ⟨by rw [hy]; rfl, rfl⟩
        · (rw [hx]; exact hbo)
        · with_reducible assumption
        · exact hne
        · exact hrt
        · exact hq4
        · with_reducible assumption
        · with_reducible assumption
        · with_reducible assumption
        · with_reducible assumption
        · with_reducible assumption
        · with_reducible assumption
    ·
      have hd : decide (Int.ofNat (kk + 1) < Int.ofNat m) = false := decide_eq_false (by simp; omega)
      have hM := psM_neg (f := f) (psN m f S R kk).S hcc
      have hR := psR_neg (f := f) (psN m f S R kk).R hcc
      rw [hM, hR] at hy hbo
      rw [hR] at hrt hq2 hq3 hn1 hgr
      by_cases hl : kk + 1 = K
      · subst hl
        have hta : tkAt (psN m f S R kk).S.M (psN m f S R kk).F (psN m f S R kk).ta (psN m f S R kk).fl = Int.ofNat al := by
          have := hok.ov; rw [hy] at this; exact this
        have hq4 := hgr.2 hok.ov
        refine round_norm (s0 := ppU n g m f al b S R) (T := fun i => ppT n g m f al b (kk + 1) S R i) (i := PI.w kk) PI.o (ppwfo_1 n g m f al b kk S R (psN m f S R kk) (psN m f S R (kk + 1))) (ob_cons rfl (ob_cons rfl (ob_cons rfl (ob_cons rfl (ob_cons rfl (ob_cons rfl (ob_cons rfl (ob_cons rfl (ob_cons rfl (ob_cons ?_ (ob_cons ?_ (ob_cons rfl (ob_cons ?_ (ob_cons rfl (ob_cons rfl (ob_cons ?_ (ob_cons rfl (ob_cons ?_ (ob_cons ?_ (ob_cons rfl (ob_cons rfl (ob_cons rfl (ob_cons rfl (ob_cons ?_ (ob_cons ?_ (ob_cons rfl (ob_cons rfl (ob_cons (Nat.le_refl _) (ob_cons ?_ (ob_cons rfl (ob_cons rfl (ob_cons rfl (ob_cons rfl (ob_cons rfl (ob_cons (Nat.le_refl _) (ob_cons (.inl ⟨rfl, rfl⟩) (ob_cons rfl (ob_cons (Nat.le_refl _) (ob_cons (.inl ⟨rfl, rfl⟩) (ob_cons ?_ (ob_cons ?_ (ob_cons ?_ (ob_cons ?_ (ob_cons ?_ (ob_cons ?_ (ob_cons ?_ (ob_cons ?_ (ob_cons ?_ (ob_cons rfl (ob_cons ?_ (ob_cons rfl (ob_cons ?_ (ob_cons ?_ (ob_cons ?_ (ob_cons ?_ (ob_cons ?_ (ob_cons ?_ (ob_cons ?_ (ob_cons ?_ (ob_cons rfl (ob_cons ?_ (ob_cons ?_ (ob_cons ?_ (ob_cons rfl (ob_cons rfl (ob_cons ?_ (ob_cons ?_ (ob_cons rfl (ob_cons rfl (ob_cons rfl (ob_cons ?_ (ob_cons ?_ (ob_cons ?_ (ob_cons ?_ ob_nil)))))))))))))))))))))))))))))))))))))))))))))))))))))))))))))))))))))))))) (by show 0 < kk + 1; omega) (by show 0 < kk + 1 + 1 - kk; omega)
        · with_reducible assumption
        · with_reducible assumption
        · with_reducible assumption
        · with_reducible assumption
        · omega
        · exact .inl ⟨hq3, rfl⟩
        · (rw [hy]; rfl)
        · (rw [hy]; rfl)
        · exact .inl ⟨by rw [hy]; rfl, rfl⟩
        · (rw [hy]; rfl)
        · (rw [hy]; rfl)
        · (rw [hy]; rfl)
        · (rw [hy]; rfl)
        · (rw [hy]; rfl)
        · (rw [hy]; rfl)
        · (rw [hy]; rfl)
        · (rw [hy]; rfl)
        · (rw [hy]; exact fun _ => rfl)
        · (rw [hy]; rfl)
        · (rw [hx, hy]; rfl)
        · (rw [hy]; rfl)
        · (rw [hy]; rfl)
        · (rw [hx, hy]; rfl)
        · (rw [hx, hy]; rfl)
        · (rw [hx, hy]; rfl)
        · (rw [hx, hy]; rfl)
        · (rw [hx, hy]; rfl)
        · (rw [hy]; exact Nat.le_refl _)
        · exact .inl ⟨by rw [hy]; rfl, rfl⟩
        · (rw [hx]; exact hbo)
        · with_reducible assumption
        · with_reducible assumption
        · with_reducible assumption
        · with_reducible assumption
        · with_reducible assumption
        · with_reducible assumption
      · have hne := hok.go (kk + 1) (by omega)
        have hq4 := fun e => hne (hgr.1 e)
        rw [hy] at hne
        refine round_norm (s0 := ppU n g m f al b S R) (T := fun i => ppT n g m f al b K S R i) (i := PI.w kk) (PI.w (kk + 1)) (ppwfc_1 n g m f al b kk S R (psN m f S R kk) (psN m f S R (kk + 1))) (ob_cons rfl (ob_cons rfl (ob_cons rfl (ob_cons rfl (ob_cons rfl (ob_cons rfl (ob_cons rfl (ob_cons rfl (ob_cons rfl (ob_cons ?_ (ob_cons ?_ (ob_cons rfl (ob_cons ?_ (ob_cons rfl (ob_cons rfl (ob_cons ?_ (ob_cons rfl (ob_cons ?_ (ob_cons ?_ (ob_cons rfl (ob_cons rfl (ob_cons rfl (ob_cons rfl (ob_cons rfl (ob_cons rfl (ob_cons ?_ (ob_cons ?_ (ob_cons rfl (ob_cons rfl (ob_cons (Nat.le_refl _) (ob_cons ?_ (ob_cons rfl (ob_cons rfl (ob_cons rfl (ob_cons rfl (ob_cons rfl (ob_cons (Nat.le_refl _) (ob_cons (.inl ⟨rfl, rfl⟩) (ob_cons rfl (ob_cons (Nat.le_refl _) (ob_cons (.inl ⟨rfl, rfl⟩) (ob_cons ?_ (ob_cons ?_ (ob_cons ?_ (ob_cons ?_ (ob_cons ?_ (ob_cons ?_ (ob_cons ?_ (ob_cons ?_ (ob_cons ?_ (ob_cons rfl (ob_cons ?_ (ob_cons rfl (ob_cons ?_ (ob_cons ?_ (ob_cons ?_ (ob_cons ?_ (ob_cons ?_ (ob_cons ?_ (ob_cons ?_ (ob_cons ?_ (ob_cons rfl (ob_cons ?_ (ob_cons ?_ (ob_cons ?_ (ob_cons rfl (ob_cons rfl (ob_cons ?_ (ob_cons ?_ (ob_cons rfl (ob_cons rfl (ob_cons rfl (ob_cons ?_ (ob_cons ?_ (ob_cons ?_ (ob_cons ?_ ob_nil)))))))))))))))))))))))))))))))))))))))))))))))))))))))))))))))))))))))))))) (by show kk + 1 < K; omega) (by show K + 1 - (kk + 1) < K + 1 - kk; omega)
        · with_reducible assumption
        · with_reducible assumption
        · with_reducible assumption
        · with_reducible assumption
        · omega
        · exact .inl ⟨hq3, rfl⟩
        · (rw [hy]; rfl)
        · (rw [hy]; rfl)
        · exact .inl ⟨by rw [hy]; rfl, rfl⟩
        · (rw [hy]; rfl)
        · (rw [hy]; rfl)
        · (rw [hy]; rfl)
        · (rw [hy]; rfl)
        · (rw [hy]; rfl)
        · (rw [hy]; rfl)
        · (rw [hy]; rfl)
        · (rw [hy]; rfl)
        · (rw [hy]; exact fun _ => rfl)
        · (rw [hy]; rfl)
        · (rw [hx, hy]; rfl)
        · (rw [hy]; rfl)
        · (rw [hy]; rfl)
        · (rw [hx, hy]; rfl)
        · (rw [hx, hy]; rfl)
        · (rw [hx, hy]; rfl)
        · (rw [hx, hy]; rfl)
        · (rw [hx, hy]; rfl)
        · (rw [hy]; exact Nat.le_refl _)
        · exact .inl ⟨by rw [hy]; rfl, rfl⟩
        · (rw [hx]; exact hbo)
        · with_reducible assumption
        · exact hne
        · with_reducible assumption
        · with_reducible assumption
        · with_reducible assumption
        · with_reducible assumption
  · have hi2 : decide (Int.ofNat (K + 1) < (200 : Int)) = true := decide_eq_true (by simp; omega)
    refine round_exit (s0 := ppU n g m f al b S R) (T := fun i => ppT n g m f al b K S R i) (i := PI.o) (ppx_1 n g m f al b K S R (psN m f S R K) (psN m f S R K)) (by simp) (ob_cons rfl (ob_cons rfl (ob_cons rfl (ob_cons rfl (ob_cons rfl (ob_cons rfl (ob_cons rfl (ob_cons rfl (ob_cons rfl (ob_cons rfl (ob_cons rfl (ob_cons rfl (ob_cons rfl (ob_cons (Nat.le_refl _) (ob_cons (.inl ⟨rfl, rfl⟩) (ob_cons rfl (ob_cons rfl (ob_cons rfl (ob_cons rfl (ob_cons rfl (ob_cons rfl (ob_cons rfl (ob_cons rfl (ob_cons (Nat.le_refl _) (ob_cons (.inl ⟨rfl, rfl⟩) (ob_cons rfl (ob_cons rfl (ob_cons rfl (ob_cons rfl (ob_cons rfl (ob_cons (Nat.le_refl _) (ob_cons (.inl ⟨rfl, rfl⟩) (ob_cons rfl (ob_cons (Nat.le_refl _) (ob_cons (.inl ⟨rfl, rfl⟩) (ob_cons rfl (ob_cons rfl (ob_cons rfl (ob_cons rfl (ob_cons rfl (ob_cons rfl (ob_cons rfl (ob_cons rfl (ob_cons (fun _ => rfl) (ob_cons rfl (ob_cons rfl (ob_cons rfl (ob_cons rfl (ob_cons rfl (ob_cons rfl (ob_cons rfl (ob_cons rfl (ob_cons rfl (ob_cons rfl (ob_cons rfl (ob_cons rfl (ob_cons (Nat.le_refl _) (ob_cons (.inl ⟨rfl, rfl⟩) (ob_cons ?_ ob_nil)))))))))))))))))))))))))))))))))))))))))))))))))))))))))))
    · exact hi2
  · have : K = 0 := hi
    omega
theorem pp_lz (n : Nat) (g : Nat → Nat → AV) (m : Nat) (f : Nat → Nat → AV) (al : Nat) (b : Int) (S : MS) (R : RS) (hok : PpOk m f al b S R 0) (ha0 : al = 0) : ppLZ n g m f al b S R (psN m f S R 0) := by
  refine loop_rule ESp_ok (I := PI) (fun i => ppT n g m f al b 0 S R i) (ppMu 0) (ppI 0) ?_ (fun ii hi => ?_)
  ·
    refine ⟨PI.b, [], _, trivial, ppi_1 .., (ob_cons rfl (ob_cons rfl (ob_cons rfl (ob_cons rfl (ob_cons rfl (ob_cons rfl (ob_cons rfl (ob_cons rfl (ob_cons rfl (ob_cons rfl (ob_cons rfl (ob_cons rfl (ob_cons rfl (ob_cons rfl (ob_cons rfl (ob_cons rfl (ob_cons (Nat.le_refl _) (ob_cons (.inl ⟨rfl, rfl⟩) (ob_cons rfl (ob_cons (Nat.le_refl _) (ob_cons (.inl ⟨rfl, rfl⟩) (ob_cons rfl (ob_cons rfl (ob_cons rfl (ob_cons rfl (ob_cons rfl (ob_cons rfl (ob_cons rfl (ob_cons rfl (ob_cons (fun _ => rfl) (ob_cons rfl (ob_cons rfl (ob_cons rfl (ob_cons rfl (ob_cons rfl (ob_cons rfl (ob_cons rfl (ob_cons rfl (ob_cons rfl (ob_cons rfl (ob_cons rfl (ob_cons rfl (ob_cons (Nat.le_refl _) (ob_cons (.inl ⟨rfl, rfl⟩) ob_nil))))))))))))))))))))))))))))))))))))))))))))⟩
  have hb0 : b = 0 := by have := hok.bal; rw [ha0] at this; simp at this; omega
  rcases ii with _ | kk | _ | _
  · by_cases hcc : 0 < m
    ·
      have hd : decide (0 < Int.ofNat m) = true := decide_eq_true (by simp; omega)
      have hb1 : Nat.blt 0 m = true := Nat.ble_eq_true_of_le hcc
      have hb2 : (Nat.blt 0 m && decide ((0 : Int) ≤ 0)) = true := by rw [hb1]; rfl
      have hr0 := hok.r 0 hcc
      have hM := psM_pos (f := f) S hcc
      have hR := psR_pos (f := f) R hcc
      have hy : psN m f S R 0 = psZ (psM m f 0 S) (psR m f 0 R) := psN_zero ..
      have hbo := hok.both 0
      have hn1 := hok.num1
      obtain ⟨hw1, hw2⟩ := hok.w0
      have hrb := hok.rb
      have htb1 := hok.tb
      rw [hy] at hbo
      rw [hR] at hn1 hw2 hrb
      rw [hM] at hw1 htb1
      rw [hM, hR] at hy hbo
      have htb2 := congrArg Int.toNat htb1
      have htb3 := congrArg some htb2
      have hn2 := hok.num0
      have hrb0 := trivial
      have htbn : tbN (mStore S (avInt (f (0 + 0) 0)) (avInt (f (0 + 0) 1)) (avInt (f (0 + 0) 2)) (avInt (f (0 + 0) 3))).M = 0 := by rw [htb1, ha0]; rfl
      have hrn : rbN (rStore R (avInt (f (0 + 0) 0)) (avInt (f (0 + 0) 1)) (avInt (f (0 + 0) 2)) (avInt (f (0 + 0) 3))).D.n (wdF (rStore R (avInt (f (0 + 0) 0)) (avInt (f (0 + 0) 1)) (avInt (f (0 + 0) 2)) (avInt (f (0 + 0) 3))).D.W) = 0 := by rw [hrb]; exact hb0
      refine round_norm (s0 := ppU n g m f al b S R) (T := fun i => ppT n g m f al b 0 S R i) (i := PI.b) PI.z (ppbtz_1 n g m f al b S S R R (psN m f S R 0)) (ob_cons rfl (ob_cons rfl (ob_cons rfl (ob_cons rfl (ob_cons rfl (ob_cons rfl (ob_cons rfl (ob_cons rfl (ob_cons rfl (ob_cons rfl (ob_cons rfl (ob_cons ?_ (ob_cons rfl (ob_cons rfl (ob_cons rfl (ob_cons rfl (ob_cons rfl (ob_cons rfl (ob_cons rfl (ob_cons rfl (ob_cons (Nat.le_refl _) (ob_cons (.inl ⟨rfl, rfl⟩) (ob_cons rfl (ob_cons rfl (ob_cons rfl (ob_cons rfl (ob_cons rfl (ob_cons (Nat.le_refl _) (ob_cons (.inl ⟨rfl, rfl⟩) (ob_cons rfl (ob_cons (Nat.le_refl _) (ob_cons (.inl ⟨rfl, rfl⟩) (ob_cons ?_ (ob_cons ?_ (ob_cons ?_ (ob_cons ?_ (ob_cons ?_ (ob_cons ?_ (ob_cons ?_ (ob_cons ?_ (ob_cons ?_ (ob_cons rfl (ob_cons ?_ (ob_cons rfl (ob_cons ?_ (ob_cons ?_ (ob_cons ?_ (ob_cons ?_ (ob_cons ?_ (ob_cons ?_ (ob_cons ?_ (ob_cons ?_ (ob_cons rfl (ob_cons ?_ (ob_cons ?_ (ob_cons ?_ (ob_cons ?_ (ob_cons ?_ (ob_cons rfl (ob_cons rfl (ob_cons rfl (ob_cons rfl (ob_cons (Nat.le_refl _) (ob_cons ?_ (ob_cons ?_ (ob_cons ?_ (ob_cons (Nat.le_refl _) (ob_cons ?_ (ob_cons ?_ (ob_cons ?_ (ob_cons ?_ (ob_cons ?_ ob_nil)))))))))))))))))))))))))))))))))))))))))))))))))))))))))))))))))))))))) (show (0 : Nat) = 0 from rfl) (by show 0 < 0 + 2; omega)
      · exact hrb
      · (rw [hy]; rfl)
      · (rw [hy]; rfl)
      · (rw [hy]; rfl)
      · (rw [hy]; rfl)
      · (rw [hy]; rfl)
      · (rw [hy]; rfl)
      · (rw [hy]; rfl)
      · (rw [hy]; rfl)
      · (rw [hy]; exact fun _ => rfl)
      · (rw [hy]; rfl)
      · (rw [hy]; rfl)
      · (rw [hy]; rfl)
      · (rw [hy]; rfl)
      · (rw [hy]; rfl)
      · (rw [hy]; rfl)
      · (rw [hy]; rfl)
      · (rw [hy]; rfl)
      · (rw [hy]; rfl)
      · (rw [hy]; exact Nat.le_refl _)
      · exact .inl ⟨by rw [hy]; rfl, rfl⟩
      · exact hbo
      · exact hw1
      · exact htbn
      · exact hn1
      · exact hw2
      · exact hrn
      · with_reducible assumption
      · with_reducible assumption
      · with_reducible assumption
      · with_reducible assumption
      · with_reducible assumption
    ·
      have hd : decide (0 < Int.ofNat m) = false := decide_eq_false (by simp; omega)
      have hM := psM_neg (f := f) S hcc
      have hR := psR_neg (f := f) R hcc
      have hy : psN m f S R 0 = psZ (psM m f 0 S) (psR m f 0 R) := psN_zero ..
      have hbo := hok.both 0
      have hn1 := hok.num1
      obtain ⟨hw1, hw2⟩ := hok.w0
      have hrb := hok.rb
      have htb1 := hok.tb
      rw [hy] at hbo
      rw [hR] at hn1 hw2 hrb
      rw [hM] at hw1 htb1
      rw [hM, hR] at hy hbo
      have htb2 := congrArg Int.toNat htb1
      have htb3 := congrArg some htb2
      have hn2 := hok.num0
      have hrb0 := trivial
      have htbn : tbN S.M = 0 := by rw [htb1, ha0]; rfl
      have hrn : rbN R.D.n (wdF R.D.W) = 0 := by rw [hrb]; exact hb0
      refine round_norm (s0 := ppU n g m f al b S R) (T := fun i => ppT n g m f al b 0 S R i) (i := PI.b) PI.z (ppbfz_1 n g m f al b S S R R (psN m f S R 0)) (ob_cons rfl (ob_cons rfl (ob_cons rfl (ob_cons rfl (ob_cons rfl (ob_cons rfl (ob_cons rfl (ob_cons rfl (ob_cons rfl (ob_cons rfl (ob_cons rfl (ob_cons ?_ (ob_cons rfl (ob_cons rfl (ob_cons rfl (ob_cons rfl (ob_cons rfl (ob_cons rfl (ob_cons rfl (ob_cons rfl (ob_cons (Nat.le_refl _) (ob_cons (.inl ⟨rfl, rfl⟩) (ob_cons rfl (ob_cons rfl (ob_cons rfl (ob_cons rfl (ob_cons rfl (ob_cons (Nat.le_refl _) (ob_cons (.inl ⟨rfl, rfl⟩) (ob_cons rfl (ob_cons (Nat.le_refl _) (ob_cons (.inl ⟨rfl, rfl⟩) (ob_cons ?_ (ob_cons ?_ (ob_cons ?_ (ob_cons ?_ (ob_cons ?_ (ob_cons ?_ (ob_cons ?_ (ob_cons ?_ (ob_cons ?_ (ob_cons rfl (ob_cons ?_ (ob_cons rfl (ob_cons ?_ (ob_cons ?_ (ob_cons ?_ (ob_cons ?_ (ob_cons ?_ (ob_cons ?_ (ob_cons ?_ (ob_cons ?_ (ob_cons rfl (ob_cons ?_ (ob_cons ?_ (ob_cons ?_ (ob_cons ?_ (ob_cons ?_ (ob_cons rfl (ob_cons rfl (ob_cons rfl (ob_cons rfl (ob_cons (Nat.le_refl _) (ob_cons ?_ (ob_cons ?_ (ob_cons ?_ (ob_cons ?_ ob_nil))))))))))))))))))))))))))))))))))))))))))))))))))))))))))))))))))) (show (0 : Nat) = 0 from rfl) (by show 0 < 0 + 2; omega)
      · with_reducible assumption
      · (rw [hy]; rfl)
      · (rw [hy]; rfl)
      · (rw [hy]; rfl)
      · (rw [hy]; rfl)
      · (rw [hy]; rfl)
      · (rw [hy]; rfl)
      · (rw [hy]; rfl)
      · (rw [hy]; rfl)
      · (rw [hy]; exact fun _ => rfl)
      · (rw [hy]; rfl)
      · (rw [hy]; rfl)
      · (rw [hy]; rfl)
      · (rw [hy]; rfl)
      · (rw [hy]; rfl)
      · (rw [hy]; rfl)
      · (rw [hy]; rfl)
      · (rw [hy]; rfl)
      · (rw [hy]; rfl)
      · (rw [hy]; exact Nat.le_refl _)
      · exact .inl ⟨by rw [hy]; rfl, rfl⟩
      · exact hbo
      · with_reducible assumption
      · with_reducible assumption
      · with_reducible assumption
      · exact hw2
      · with_reducible assumption
      · with_reducible assumption
  · have : kk < 0 := hi
    omega
  · have : 0 < 0 := hi
    omega
  ·
    refine round_exit (s0 := ppU n g m f al b S R) (T := fun i => ppT n g m f al b 0 S R i) (i := PI.z) (ppy_1 n g m f al b 0 S R (psN m f S R 0) (psN m f S R 0)) (by simp) (ob_cons rfl (ob_cons rfl (ob_cons rfl (ob_cons rfl (ob_cons rfl (ob_cons rfl (ob_cons rfl (ob_cons rfl (ob_cons rfl (ob_cons rfl (ob_cons rfl (ob_cons rfl (ob_cons rfl (ob_cons rfl (ob_cons rfl (ob_cons rfl (ob_cons (Nat.le_refl _) (ob_cons (.inl ⟨rfl, rfl⟩) (ob_cons rfl (ob_cons rfl (ob_cons rfl (ob_cons rfl (ob_cons rfl (ob_cons (Nat.le_refl _) (ob_cons (.inl ⟨rfl, rfl⟩) (ob_cons rfl (ob_cons (Nat.le_refl _) (ob_cons (.inl ⟨rfl, rfl⟩) (ob_cons rfl (ob_cons rfl (ob_cons rfl (ob_cons rfl (ob_cons rfl (ob_cons rfl (ob_cons rfl (ob_cons rfl (ob_cons (fun _ => rfl) (ob_cons rfl (ob_cons rfl (ob_cons rfl (ob_cons rfl (ob_cons rfl (ob_cons rfl (ob_cons rfl (ob_cons rfl (ob_cons rfl (ob_cons rfl (ob_cons rfl (ob_cons rfl (ob_cons (Nat.le_refl _) (ob_cons (.inl ⟨rfl, rfl⟩) (ob_cons rfl ob_nil))))))))))))))))))))))))))))))))))))))))))))))))))))

end Go.Proofs.Ytmlfmmnnbdlabaa
