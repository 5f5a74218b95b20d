/-
  SnapsMoved: the loop of the Taker.
-/
import Derived.Test.YtmlfmmnnbdlabaaNSvDef
set_option linter.unusedSimpArgs false
set_option linter.unusedVariables false
namespace Go.Proofs.Ytmlfmmnnbdlabaa
open Go.Ev
theorem svbt_1 (n al : Nat) (g : Nat → Nat → AV) (z0 z1 w wt bl who fd wh : Int) (x0 x : MS) (y : SV) : roundB ESv 4000 svL ((svU n al g z0 z1 w wt bl who fd wh x0).hp) [(6, Src.nm 7)] (svB n al g z0 z1 w wt bl who fd wh x) [Hint.b true, Hint.b false] (svW n al g z0 z1 w wt bl who fd wh 0 y) =
 some (Ex.norm, [(0 : Nat) = 0,
 n = n,
 (none : Option Nat) = none,
 w = w,
 (0 : Nat) = 0,
 (0 : Nat) = 0,
 bl = bl,
 who = who,
 fd = fd,
 wh = wh,
 (0 : Nat) = 0,
 (0 : Nat) = 0,
 (1 : Int) = 1,
 (0 : Nat) = 0,
 (0 : Nat) = 0,
 (0 : Nat) = 0,
 (tbN (memPut x.M 8 who fd w)).toNat = al,
 some (tbN (memPut x.M 8 who fd w)).toNat = some al,
 (0 : Int) = 0,
 0 = y.ta,
 0 = y.fl,
 tbN (memPut x.M 8 who fd w) = Int.ofNat al,
 false = false,
 al ≤ (tbN (memPut x.M 8 who fd w)).toNat,
 y.F = tF0 ∧ plainSh tSh = true ∨ ∀ (i : Nat), i < al → rowOb tSh 0 (tF0 i) (y.F i),
 IntKind.i64.wrap (IntKind.i64.wrap (x.st + 1) + 1) = y.m.st,
 1 = y.m.L.c,
 5 = y.m.L.k,
 0 = y.m.L.a,
 0 = y.m.L.f,
 mget (memPut x.M 8 who fd w) (key 5 0 0) = y.m.L.w,
 mget (memPut x.M 8 who fd w) (key 5 0 0) = y.m.L.i,
 false = y.m.L.d,
 ∀ (k : List Int), memPut x.M 8 who fd w k = y.m.M k,
 true = true,
 n ≤ n,
 g = g ∧ plainSh tSh = true ∨ ∀ (i : Nat), i < n → rowOb tSh 0 (g i) (g i),
 0 ≤ mget (memPut x.M 8 who fd w) (key 5 0 0),
 tbN (memPut x.M 8 who fd w) ≠ 0,
 (0 : Int) ≤ (8 : Int),
 (0 == wh) = true]) := by kernel_rfl
theorem svwtt_1 (n al : Nat) (g : Nat → Nat → AV) (z0 z1 w wt bl who fd wh : Int) (kk : Nat) (x0 : MS) (s y : SV) : roundB ESv 4000 svL ((svU n al g z0 z1 w wt bl who fd wh x0).hp) [(6, Src.nm 6)] (svW n al g z0 z1 w wt bl who fd wh kk s) [Hint.b true, Hint.b true, Hint.b true] (svO n al g z0 z1 w wt bl who fd wh (kk + 1) y) =
 some (Ex.norm, [(0 : Nat) = 0,
 n = n,
 (none : Option Nat) = none,
 w = w,
 (0 : Nat) = 0,
 (0 : Nat) = 0,
 bl = bl,
 who = who,
 fd = fd,
 wh = wh,
 (0 : Nat) = 0,
 (0 : Nat) = 0,
 IntKind.i64.wrap (Int.ofNat (kk + 1) + 1) = Int.ofNat (kk + 1 + 1),
 (0 : Nat) = 0,
 al = al,
 some al = some al,
 (0 : Int) = 0,
 tkAt (memPut s.m.M 8 who fd w) s.F s.ta s.fl = y.ta,
 tkFl (memPut s.m.M 8 who fd w) s.F s.ta s.fl = y.fl,
 Int.ofNat al = Int.ofNat al,
 false = false,
 al ≤ al,
 y.F = tkF s.F s.ta s.fl (mget (memPut s.m.M 8 who fd w) (key 8 s.ta s.fl)) ∧ plainSh tSh = true ∨ ∀ (i : Nat), i < al → rowOb tSh 0 (tkF s.F s.ta s.fl (mget (memPut s.m.M 8 who fd w) (key 8 s.ta s.fl)) i) (y.F i),
 IntKind.i64.wrap (IntKind.i64.wrap (s.m.st + 1) + 1) = y.m.st,
 1 = y.m.L.c,
 8 = y.m.L.k,
 s.ta = y.m.L.a,
 s.fl = y.m.L.f,
 mget (memPut s.m.M 8 who fd w) (key 8 s.ta s.fl) = y.m.L.w,
 mget (memPut s.m.M 8 who fd w) (key 8 s.ta s.fl) = y.m.L.i,
 false = y.m.L.d,
 ∀ (k : List Int), memPut s.m.M 8 who fd w k = y.m.M k,
 true = true,
 n ≤ n,
 g = g ∧ plainSh tSh = true ∨ ∀ (i : Nat), i < n → rowOb tSh 0 (g i) (g i),
 some al = some al,
 al = al,
 TkPre s.F s.ta s.fl (Int.ofNat al) al,
 tkAt (memPut s.m.M 8 who fd w) s.F s.ta s.fl = Int.ofNat al,
 (0 : Int) ≤ (8 : Int),
 (Int.ofNat (kk + 1) == wh) = true,
 decide (Int.ofNat (kk + 1) < 200) = true]) := by kernel_rfl
theorem svwtf_1 (n al : Nat) (g : Nat → Nat → AV) (z0 z1 w wt bl who fd wh : Int) (kk : Nat) (x0 : MS) (s y : SV) : roundB ESv 4000 svL ((svU n al g z0 z1 w wt bl who fd wh x0).hp) [(6, Src.nm 6)] (svW n al g z0 z1 w wt bl who fd wh kk s) [Hint.b true, Hint.b true, Hint.b false] (svW n al g z0 z1 w wt bl who fd wh (kk + 1) y) =
 some (Ex.norm, [(0 : Nat) = 0,
 n = n,
 (none : Option Nat) = none,
 w = w,
 (0 : Nat) = 0,
 (0 : Nat) = 0,
 bl = bl,
 who = who,
 fd = fd,
 wh = wh,
 (0 : Nat) = 0,
 (0 : Nat) = 0,
 IntKind.i64.wrap (Int.ofNat (kk + 1) + 1) = Int.ofNat (kk + 1 + 1),
 (0 : Nat) = 0,
 (0 : Nat) = 0,
 (0 : Nat) = 0,
 al = al,
 some al = some al,
 (0 : Int) = 0,
 tkAt (memPut s.m.M 8 who fd w) s.F s.ta s.fl = y.ta,
 tkFl (memPut s.m.M 8 who fd w) s.F s.ta s.fl = y.fl,
 Int.ofNat al = Int.ofNat al,
 false = false,
 al ≤ al,
 y.F = tkF s.F s.ta s.fl (mget (memPut s.m.M 8 who fd w) (key 8 s.ta s.fl)) ∧ plainSh tSh = true ∨ ∀ (i : Nat), i < al → rowOb tSh 0 (tkF s.F s.ta s.fl (mget (memPut s.m.M 8 who fd w) (key 8 s.ta s.fl)) i) (y.F i),
 IntKind.i64.wrap (IntKind.i64.wrap (s.m.st + 1) + 1) = y.m.st,
 1 = y.m.L.c,
 8 = y.m.L.k,
 s.ta = y.m.L.a,
 s.fl = y.m.L.f,
 mget (memPut s.m.M 8 who fd w) (key 8 s.ta s.fl) = y.m.L.w,
 mget (memPut s.m.M 8 who fd w) (key 8 s.ta s.fl) = y.m.L.i,
 false = y.m.L.d,
 ∀ (k : List Int), memPut s.m.M 8 who fd w k = y.m.M k,
 true = true,
 n ≤ n,
 g = g ∧ plainSh tSh = true ∨ ∀ (i : Nat), i < n → rowOb tSh 0 (g i) (g i),
 some al = some al,
 al = al,
 TkPre s.F s.ta s.fl (Int.ofNat al) al,
 tkAt (memPut s.m.M 8 who fd w) s.F s.ta s.fl ≠ Int.ofNat al,
 (0 : Int) ≤ (8 : Int),
 (Int.ofNat (kk + 1) == wh) = true,
 decide (Int.ofNat (kk + 1) < 200) = true]) := by kernel_rfl
theorem svbf_1 (n al : Nat) (g : Nat → Nat → AV) (z0 z1 w wt bl who fd wh : Int) (x0 x : MS) (y : SV) : roundB ESv 4000 svL ((svU n al g z0 z1 w wt bl who fd wh x0).hp) [(6, Src.nm 7)] (svB n al g z0 z1 w wt bl who fd wh x) [Hint.b false, Hint.b false] (svW n al g z0 z1 w wt bl who fd wh 0 y) =
 some (Ex.norm, [(0 : Nat) = 0,
 n = n,
 (none : Option Nat) = none,
 w = w,
 (0 : Nat) = 0,
 (0 : Nat) = 0,
 bl = bl,
 who = who,
 fd = fd,
 wh = wh,
 (0 : Nat) = 0,
 (0 : Nat) = 0,
 (1 : Int) = 1,
 (0 : Nat) = 0,
 (0 : Nat) = 0,
 (0 : Nat) = 0,
 (tbN x.M).toNat = al,
 some (tbN x.M).toNat = some al,
 (0 : Int) = 0,
 0 = y.ta,
 0 = y.fl,
 tbN x.M = Int.ofNat al,
 false = false,
 al ≤ (tbN x.M).toNat,
 y.F = tF0 ∧ plainSh tSh = true ∨ ∀ (i : Nat), i < al → rowOb tSh 0 (tF0 i) (y.F i),
 IntKind.i64.wrap (x.st + 1) = y.m.st,
 1 = y.m.L.c,
 5 = y.m.L.k,
 0 = y.m.L.a,
 0 = y.m.L.f,
 mget x.M (key 5 0 0) = y.m.L.w,
 mget x.M (key 5 0 0) = y.m.L.i,
 false = y.m.L.d,
 ∀ (k : List Int), x.M k = y.m.M k,
 true = true,
 n ≤ n,
 g = g ∧ plainSh tSh = true ∨ ∀ (i : Nat), i < n → rowOb tSh 0 (g i) (g i),
 0 ≤ mget x.M (key 5 0 0),
 tbN x.M ≠ 0,
 (0 == wh) = false]) := by kernel_rfl
theorem svwft_1 (n al : Nat) (g : Nat → Nat → AV) (z0 z1 w wt bl who fd wh : Int) (kk : Nat) (x0 : MS) (s y : SV) : roundB ESv 4000 svL ((svU n al g z0 z1 w wt bl who fd wh x0).hp) [(6, Src.nm 6)] (svW n al g z0 z1 w wt bl who fd wh kk s) [Hint.b true, Hint.b false, Hint.b true] (svO n al g z0 z1 w wt bl who fd wh (kk + 1) y) =
 some (Ex.norm, [(0 : Nat) = 0,
 n = n,
 (none : Option Nat) = none,
 w = w,
 (0 : Nat) = 0,
 (0 : Nat) = 0,
 bl = bl,
 who = who,
 fd = fd,
 wh = wh,
 (0 : Nat) = 0,
 (0 : Nat) = 0,
 IntKind.i64.wrap (Int.ofNat (kk + 1) + 1) = Int.ofNat (kk + 1 + 1),
 (0 : Nat) = 0,
 al = al,
 some al = some al,
 (0 : Int) = 0,
 tkAt s.m.M s.F s.ta s.fl = y.ta,
 tkFl s.m.M s.F s.ta s.fl = y.fl,
 Int.ofNat al = Int.ofNat al,
 false = false,
 al ≤ al,
 y.F = tkF s.F s.ta s.fl (mget s.m.M (key 8 s.ta s.fl)) ∧ plainSh tSh = true ∨ ∀ (i : Nat), i < al → rowOb tSh 0 (tkF s.F s.ta s.fl (mget s.m.M (key 8 s.ta s.fl)) i) (y.F i),
 IntKind.i64.wrap (s.m.st + 1) = y.m.st,
 1 = y.m.L.c,
 8 = y.m.L.k,
 s.ta = y.m.L.a,
 s.fl = y.m.L.f,
 mget s.m.M (key 8 s.ta s.fl) = y.m.L.w,
 mget s.m.M (key 8 s.ta s.fl) = y.m.L.i,
 false = y.m.L.d,
 ∀ (k : List Int), s.m.M k = y.m.M k,
 true = true,
 n ≤ n,
 g = g ∧ plainSh tSh = true ∨ ∀ (i : Nat), i < n → rowOb tSh 0 (g i) (g i),
 some al = some al,
 al = al,
 TkPre s.F s.ta s.fl (Int.ofNat al) al,
 tkAt s.m.M s.F s.ta s.fl = Int.ofNat al,
 (Int.ofNat (kk + 1) == wh) = false,
 decide (Int.ofNat (kk + 1) < 200) = true]) := by kernel_rfl
theorem svwff_1 (n al : Nat) (g : Nat → Nat → AV) (z0 z1 w wt bl who fd wh : Int) (kk : Nat) (x0 : MS) (s y : SV) : roundB ESv 4000 svL ((svU n al g z0 z1 w wt bl who fd wh x0).hp) [(6, Src.nm 6)] (svW n al g z0 z1 w wt bl who fd wh kk s) [Hint.b true, Hint.b false, Hint.b false] (svW n al g z0 z1 w wt bl who fd wh (kk + 1) y) =
 some (Ex.norm, [(0 : Nat) = 0,
 n = n,
 (none : Option Nat) = none,
 w = w,
 (0 : Nat) = 0,
 (0 : Nat) = 0,
 bl = bl,
 who = who,
 fd = fd,
 wh = wh,
 (0 : Nat) = 0,
 (0 : Nat) = 0,
 IntKind.i64.wrap (Int.ofNat (kk + 1) + 1) = Int.ofNat (kk + 1 + 1),
 (0 : Nat) = 0,
 (0 : Nat) = 0,
 (0 : Nat) = 0,
 al = al,
 some al = some al,
 (0 : Int) = 0,
 tkAt s.m.M s.F s.ta s.fl = y.ta,
 tkFl s.m.M s.F s.ta s.fl = y.fl,
 Int.ofNat al = Int.ofNat al,
 false = false,
 al ≤ al,
 y.F = tkF s.F s.ta s.fl (mget s.m.M (key 8 s.ta s.fl)) ∧ plainSh tSh = true ∨ ∀ (i : Nat), i < al → rowOb tSh 0 (tkF s.F s.ta s.fl (mget s.m.M (key 8 s.ta s.fl)) i) (y.F i),
 IntKind.i64.wrap (s.m.st + 1) = y.m.st,
 1 = y.m.L.c,
 8 = y.m.L.k,
 s.ta = y.m.L.a,
 s.fl = y.m.L.f,
 mget s.m.M (key 8 s.ta s.fl) = y.m.L.w,
 mget s.m.M (key 8 s.ta s.fl) = y.m.L.i,
 false = y.m.L.d,
 ∀ (k : List Int), s.m.M k = y.m.M k,
 true = true,
 n ≤ n,
 g = g ∧ plainSh tSh = true ∨ ∀ (i : Nat), i < n → rowOb tSh 0 (g i) (g i),
 some al = some al,
 al = al,
 TkPre s.F s.ta s.fl (Int.ofNat al) al,
 tkAt s.m.M s.F s.ta s.fl ≠ Int.ofNat al,
 (Int.ofNat (kk + 1) == wh) = false,
 decide (Int.ofNat (kk + 1) < 200) = true]) := by kernel_rfl
theorem svx_1 (n al : Nat) (g : Nat → Nat → AV) (z0 z1 w wt bl who fd wh : Int) (kk : Nat) (x0 : MS) (s y : SV) : roundB ESv 4000 svL ((svU n al g z0 z1 w wt bl who fd wh x0).hp) [(6, Src.nm 6)] (svO n al g z0 z1 w wt bl who fd wh kk s) [Hint.b true] (svX n al g z0 z1 w wt bl who fd wh s) =
 some (Ex.exit 2, [(0 : Nat) = 0,
 n = n,
 (none : Option Nat) = none,
 w = w,
 bl = bl,
 who = who,
 fd = fd,
 wh = wh,
 (0 : Nat) = 0,
 (0 : Nat) = 0,
 (0 : Nat) = 0,
 al = al,
 some al = some al,
 (0 : Int) = 0,
 s.ta = s.ta,
 s.fl = s.fl,
 Int.ofNat al = Int.ofNat al,
 false = false,
 al ≤ al,
 s.F = s.F ∧ plainSh tSh = true ∨ ∀ (i : Nat), i < al → rowOb tSh 0 (s.F i) (s.F i),
 s.m.st = s.m.st,
 s.m.L.c = s.m.L.c,
 s.m.L.k = s.m.L.k,
 s.m.L.a = s.m.L.a,
 s.m.L.f = s.m.L.f,
 s.m.L.w = s.m.L.w,
 s.m.L.i = s.m.L.i,
 s.m.L.d = s.m.L.d,
 ∀ (k : List Int), s.m.M k = s.m.M k,
 true = true,
 n ≤ n,
 g = g ∧ plainSh tSh = true ∨ ∀ (i : Nat), i < n → rowOb tSh 0 (g i) (g i),
 decide (Int.ofNat (kk + 1) < 200) = true]) := by kernel_rfl
theorem svi_1 (n al : Nat) (g : Nat → Nat → AV) (z0 z1 w wt bl who fd wh : Int) (x : MS) : castSt ((svU n al g z0 z1 w wt bl who fd wh x).hp) [] (svU n al g z0 z1 w wt bl who fd wh x) (svB n al g z0 z1 w wt bl who fd wh x) =
 some ([(0 : Nat) = 0,
 n = n,
 (none : Option Nat) = none,
 w = w,
 (0 : Nat) = 0,
 (0 : Nat) = 0,
 bl = bl,
 who = who,
 fd = fd,
 wh = wh,
 (0 : Nat) = 0,
 (0 : Nat) = 0,
 (0 : Nat) = 0,
 (0 : Nat) = 0,
 x.st = x.st,
 x.L.c = x.L.c,
 x.L.k = x.L.k,
 x.L.a = x.L.a,
 x.L.f = x.L.f,
 x.L.w = x.L.w,
 x.L.i = x.L.i,
 x.L.d = x.L.d,
 ∀ (k : List Int), x.M k = x.M k,
 true = true,
 n ≤ n,
 g = g ∧ plainSh tSh = true ∨ ∀ (i : Nat), i < n → rowOb tSh 0 (g i) (g i)]) := by kernel_rfl
theorem svN_zero (who fd w wh : Int) (x : MS) : svN who fd w wh x 0 = svZ (svM who fd w wh 0 x) := rfl
theorem svN_succ (who fd w wh : Int) (x : MS) (k : Nat) : svN who fd w wh x (k + 1) = svS (svM who fd w wh (k + 1) (svN who fd w wh x k).m) (svN who fd w wh x k) := rfl
theorem svM_pos {who fd w wh : Int} {i : Nat} (x : MS) (h : Int.ofNat i = wh) : svM who fd w wh i x = mStore x 8 who fd w := if_pos h
theorem svM_neg {who fd w wh : Int} {i : Nat} (x : MS) (h : ¬ Int.ofNat i = wh) : svM who fd w wh i x = x := if_neg h
attribute [local irreducible] svN tkAt tkFl tkF tbN mget memPut svM
theorem sv_lp (n al : Nat) (g : Nat → Nat → AV) (z0 z1 w wt bl who fd wh : Int) (K : Nat) (x : MS) (hK : K < 190) (hK1 : 1 < K) (hb : 0 ≤ mget (svM who fd w wh 0 x).M (key 5 0 0)) (hal : tbN (svM who fd w wh 0 x).M = Int.ofNat al) (ha0 : al ≠ 0)
    (hpre : ∀ k, k < K → TkPre (svN who fd w wh x k).F (svN who fd w wh x k).ta (svN who fd w wh x k).fl (Int.ofNat al) al)
    (hgo : ∀ k, k < K → (svN who fd w wh x k).ta ≠ Int.ofNat al) (hov : (svN who fd w wh x K).ta = Int.ofNat al) : svLP n al g z0 z1 w wt bl who fd wh x (svN who fd w wh x K) := by
  refine loop_rule ESv_ok (I := SI) (fun i => svT n al g z0 z1 w wt bl who fd wh K x i) (svMu K) (svI K) ?_ (fun ii hi => ?_)
  ·
    refine ⟨SI.b, [], _, trivial, svi_1 .., (ob_cons rfl (ob_cons rfl (ob_cons rfl (ob_cons rfl (ob_cons rfl (ob_cons rfl (ob_cons rfl (ob_cons rfl (ob_cons rfl (ob_cons rfl (ob_cons rfl (ob_cons rfl (ob_cons rfl (ob_cons rfl (ob_cons rfl (ob_cons rfl (ob_cons rfl (ob_cons rfl (ob_cons rfl (ob_cons rfl (ob_cons rfl (ob_cons rfl (ob_cons (fun _ => rfl) (ob_cons rfl (ob_cons (Nat.le_refl _) (ob_cons (.inl ⟨rfl, rfl⟩) ob_nil))))))))))))))))))))))))))⟩
  rcases ii with _ | kk | _
  · have hlen : (tbN (svM who fd w wh 0 x).M).toNat = al := by rw [hal]; rfl
    have hlen2 : some (tbN (svM who fd w wh 0 x).M).toNat = some al := by rw [hlen]
    have hnz : tbN (svM who fd w wh 0 x).M ≠ 0 := by rw [hal]; intro h; exact ha0 (by simpa using h)
    have h0 := hb
    have hall := hal
    by_cases hcc : Int.ofNat 0 = wh
    · have hc : ((0 : Int) == wh) = true := by simpa using hcc
      have hm : svM who fd w wh 0 x = mStore x 8 who fd w := svM_pos _ hcc
      have hy : svN who fd w wh x 0 = svZ (mStore x 8 who fd w) := by rw [svN_zero, hm]
      have hm2 : (svM who fd w wh 0 x).M = memPut x.M 8 who fd w := by rw [hm]; rfl
      rw [hm2] at hlen hlen2 hnz h0 hall
      refine round_norm (s0 := svU n al g z0 z1 w wt bl who fd wh x) (T := fun i => svT n al g z0 z1 w wt bl who fd wh K x i) (i := SI.b) (SI.w 0) (svbt_1 n al g z0 z1 w wt bl who fd wh x x (svN who fd w wh x 0)) (ob_cons rfl (ob_cons rfl (ob_cons rfl (ob_cons rfl (ob_cons rfl (ob_cons rfl (ob_cons rfl (ob_cons rfl (ob_cons rfl (ob_cons rfl (ob_cons rfl (ob_cons rfl (ob_cons rfl (ob_cons rfl (ob_cons rfl (ob_cons rfl (ob_cons ?_ (ob_cons ?_ (ob_cons rfl (ob_cons ?_ (ob_cons ?_ (ob_cons ?_ (ob_cons rfl (ob_cons ?_ (ob_cons ?_ (ob_cons ?_ (ob_cons ?_ (ob_cons ?_ (ob_cons ?_ (ob_cons ?_ (ob_cons ?_ (ob_cons ?_ (ob_cons ?_ (ob_cons ?_ (ob_cons rfl (ob_cons (Nat.le_refl _) (ob_cons (.inl ⟨rfl, rfl⟩) (ob_cons ?_ (ob_cons ?_ (ob_cons (by decide) (ob_cons ?_ ob_nil))))))))))))))))))))))))))))))))))))))))) (by show 0 < K; omega) (by show K + 1 - 0 < K + 2; omega)
      ·
        first | with_reducible assumption | (rw [hy]; rfl) | exact .inl ⟨by rw [hy]; rfl, rfl⟩ | (rw [hy]; exact fun _ => rfl) | exact rfl | (simp; omega) | rfl
      ·
        first | with_reducible assumption | (rw [hy]; rfl) | exact .inl ⟨by rw [hy]; rfl, rfl⟩ | (rw [hy]; exact fun _ => rfl) | exact rfl | (simp; omega) | rfl
      ·
        first | with_reducible assumption | (rw [hy]; rfl) | exact .inl ⟨by rw [hy]; rfl, rfl⟩ | (rw [hy]; exact fun _ => rfl) | exact rfl | (simp; omega) | rfl
      ·
        first | with_reducible assumption | (rw [hy]; rfl) | exact .inl ⟨by rw [hy]; rfl, rfl⟩ | (rw [hy]; exact fun _ => rfl) | exact rfl | (simp; omega) | rfl
      ·
        first | with_reducible assumption | (rw [hy]; rfl) | exact .inl ⟨by rw [hy]; rfl, rfl⟩ | (rw [hy]; exact fun _ => rfl) | exact rfl | (simp; omega) | rfl
      ·
        first | with_reducible assumption | (rw [hy]; rfl) | exact .inl ⟨by rw [hy]; rfl, rfl⟩ | (rw [hy]; exact fun _ => rfl) | exact rfl | (simp; omega) | exact Nat.le_refl _ | omega
      ·
        first | with_reducible assumption | (rw [hy]; rfl) | exact .inl ⟨by rw [hy]; rfl, rfl⟩ | (rw [hy]; exact fun _ => rfl) | exact rfl | (simp; omega) | exact .inl ⟨rfl, rfl⟩
      ·
        first | with_reducible assumption | (rw [hy]; rfl) | exact .inl ⟨by rw [hy]; rfl, rfl⟩ | (rw [hy]; exact fun _ => rfl) | exact rfl | (simp; omega) | exact wrap_nat64 _ (by simp; omega) (by simp; omega)
      ·
        first | with_reducible assumption | (rw [hy]; rfl) | exact .inl ⟨by rw [hy]; rfl, rfl⟩ | (rw [hy]; exact fun _ => rfl) | exact rfl | (simp; omega) | rfl
      ·
        first | with_reducible assumption | (rw [hy]; rfl) | exact .inl ⟨by rw [hy]; rfl, rfl⟩ | (rw [hy]; exact fun _ => rfl) | exact rfl | (simp; omega) | rfl
      ·
        first | with_reducible assumption | (rw [hy]; rfl) | exact .inl ⟨by rw [hy]; rfl, rfl⟩ | (rw [hy]; exact fun _ => rfl) | exact rfl | (simp; omega) | rfl
      ·
        first | with_reducible assumption | (rw [hy]; rfl) | exact .inl ⟨by rw [hy]; rfl, rfl⟩ | (rw [hy]; exact fun _ => rfl) | exact rfl | (simp; omega) | rfl
      ·
        first | with_reducible assumption | (rw [hy]; rfl) | exact .inl ⟨by rw [hy]; rfl, rfl⟩ | (rw [hy]; exact fun _ => rfl) | exact rfl | (simp; omega) | rfl
      ·
        first | with_reducible assumption | (rw [hy]; rfl) | exact .inl ⟨by rw [hy]; rfl, rfl⟩ | (rw [hy]; exact fun _ => rfl) | exact rfl | (simp; omega) | rfl
      ·
        first | with_reducible assumption | (rw [hy]; rfl) | exact .inl ⟨by rw [hy]; rfl, rfl⟩ | (rw [hy]; exact fun _ => rfl) | exact rfl | (simp; omega) | rfl
      ·
        first | with_reducible assumption | (rw [hy]; rfl) | exact .inl ⟨by rw [hy]; rfl, rfl⟩ | (rw [hy]; exact fun _ => rfl) | exact rfl | (simp; omega) | exact fun _ => rfl
      ·
        first | with_reducible assumption | (rw [hy]; rfl) | exact .inl ⟨by rw [hy]; rfl, rfl⟩ | (rw [hy]; exact fun _ => rfl) | exact rfl | (simp; omega) | exact Nat.le_refl _ | omega
      ·
        first | with_reducible assumption | (rw [hy]; rfl) | exact .inl ⟨by rw [hy]; rfl, rfl⟩ | (rw [hy]; exact fun _ => rfl) | exact rfl | (simp; omega) | trivial
      ·
        first | with_reducible assumption | (rw [hy]; rfl) | exact .inl ⟨by rw [hy]; rfl, rfl⟩ | (rw [hy]; exact fun _ => rfl) | exact rfl | (simp; omega) | (apply Nat.ble_eq_true_of_le; omega) | (simp [Nat.blt_eq]; omega)
    · have hc : ((0 : Int) == wh) = false := by simpa using hcc
      have hm : svM who fd w wh 0 x = x := svM_neg _ hcc
      have hy : svN who fd w wh x 0 = svZ x := by rw [svN_zero, hm]
      rw [hm] at hlen hlen2 hnz h0 hall
      refine round_norm (s0 := svU n al g z0 z1 w wt bl who fd wh x) (T := fun i => svT n al g z0 z1 w wt bl who fd wh K x i) (i := SI.b) (SI.w 0) (svbf_1 n al g z0 z1 w wt bl who fd wh x x (svN who fd w wh x 0)) (ob_cons rfl (ob_cons rfl (ob_cons rfl (ob_cons rfl (ob_cons rfl (ob_cons rfl (ob_cons rfl (ob_cons rfl (ob_cons rfl (ob_cons rfl (ob_cons rfl (ob_cons rfl (ob_cons rfl (ob_cons rfl (ob_cons rfl (ob_cons rfl (ob_cons ?_ (ob_cons ?_ (ob_cons rfl (ob_cons ?_ (ob_cons ?_ (ob_cons ?_ (ob_cons rfl (ob_cons ?_ (ob_cons ?_ (ob_cons ?_ (ob_cons ?_ (ob_cons ?_ (ob_cons ?_ (ob_cons ?_ (ob_cons ?_ (ob_cons ?_ (ob_cons ?_ (ob_cons ?_ (ob_cons rfl (ob_cons (Nat.le_refl _) (ob_cons (.inl ⟨rfl, rfl⟩) (ob_cons ?_ (ob_cons ?_ (ob_cons ?_ ob_nil)))))))))))))))))))))))))))))))))))))))) (by show 0 < K; omega) (by show K + 1 - 0 < K + 2; omega)
      ·
        first | with_reducible assumption | (rw [hy]; rfl) | exact .inl ⟨by rw [hy]; rfl, rfl⟩ | (rw [hy]; exact fun _ => rfl) | exact rfl | (simp; omega) | rfl
      ·
        first | with_reducible assumption | (rw [hy]; rfl) | exact .inl ⟨by rw [hy]; rfl, rfl⟩ | (rw [hy]; exact fun _ => rfl) | exact rfl | (simp; omega) | rfl
      ·
        first | with_reducible assumption | (rw [hy]; rfl) | exact .inl ⟨by rw [hy]; rfl, rfl⟩ | (rw [hy]; exact fun _ => rfl) | exact rfl | (simp; omega) | rfl
      ·
        first | with_reducible assumption | (rw [hy]; rfl) | exact .inl ⟨by rw [hy]; rfl, rfl⟩ | (rw [hy]; exact fun _ => rfl) | exact rfl | (simp; omega) | rfl
      ·
        first | with_reducible assumption | (rw [hy]; rfl) | exact .inl ⟨by rw [hy]; rfl, rfl⟩ | (rw [hy]; exact fun _ => rfl) | exact rfl | (simp; omega) | rfl
      ·
        first | with_reducible assumption | (rw [hy]; rfl) | exact .inl ⟨by rw [hy]; rfl, rfl⟩ | (rw [hy]; exact fun _ => rfl) | exact rfl | (simp; omega) | exact Nat.le_refl _ | omega
      ·
        first | with_reducible assumption | (rw [hy]; rfl) | exact .inl ⟨by rw [hy]; rfl, rfl⟩ | (rw [hy]; exact fun _ => rfl) | exact rfl | (simp; omega) | exact .inl ⟨rfl, rfl⟩
      ·
        first | with_reducible assumption | (rw [hy]; rfl) | exact .inl ⟨by rw [hy]; rfl, rfl⟩ | (rw [hy]; exact fun _ => rfl) | exact rfl | (simp; omega) | exact wrap_nat64 _ (by simp; omega) (by simp; omega)
      ·
        first | with_reducible assumption | (rw [hy]; rfl) | exact .inl ⟨by rw [hy]; rfl, rfl⟩ | (rw [hy]; exact fun _ => rfl) | exact rfl | (simp; omega) | rfl
      ·
        first | with_reducible assumption | (rw [hy]; rfl) | exact .inl ⟨by rw [hy]; rfl, rfl⟩ | (rw [hy]; exact fun _ => rfl) | exact rfl | (simp; omega) | rfl
      ·
        first | with_reducible assumption | (rw [hy]; rfl) | exact .inl ⟨by rw [hy]; rfl, rfl⟩ | (rw [hy]; exact fun _ => rfl) | exact rfl | (simp; omega) | rfl
      ·
        first | with_reducible assumption | (rw [hy]; rfl) | exact .inl ⟨by rw [hy]; rfl, rfl⟩ | (rw [hy]; exact fun _ => rfl) | exact rfl | (simp; omega) | rfl
      ·
        first | with_reducible assumption | (rw [hy]; rfl) | exact .inl ⟨by rw [hy]; rfl, rfl⟩ | (rw [hy]; exact fun _ => rfl) | exact rfl | (simp; omega) | rfl
      ·
        first | with_reducible assumption | (rw [hy]; rfl) | exact .inl ⟨by rw [hy]; rfl, rfl⟩ | (rw [hy]; exact fun _ => rfl) | exact rfl | (simp; omega) | rfl
      ·
        first | with_reducible assumption | (rw [hy]; rfl) | exact .inl ⟨by rw [hy]; rfl, rfl⟩ | (rw [hy]; exact fun _ => rfl) | exact rfl | (simp; omega) | rfl
      ·
        first | with_reducible assumption | (rw [hy]; rfl) | exact .inl ⟨by rw [hy]; rfl, rfl⟩ | (rw [hy]; exact fun _ => rfl) | exact rfl | (simp; omega) | exact fun _ => rfl
      ·
        first | with_reducible assumption | (rw [hy]; rfl) | exact .inl ⟨by rw [hy]; rfl, rfl⟩ | (rw [hy]; exact fun _ => rfl) | exact rfl | (simp; omega) | exact Nat.le_refl _ | omega
      ·
        first | with_reducible assumption | (rw [hy]; rfl) | exact .inl ⟨by rw [hy]; rfl, rfl⟩ | (rw [hy]; exact fun _ => rfl) | exact rfl | (simp; omega) | trivial
      ·
        first | with_reducible assumption | (rw [hy]; rfl) | exact .inl ⟨by rw [hy]; rfl, rfl⟩ | (rw [hy]; exact fun _ => rfl) | exact rfl | (simp; omega) | (apply Nat.ble_eq_true_of_le; omega) | (simp [Nat.blt_eq]; omega)
  · have hk : kk < K := hi
    have hi2 : decide (Int.ofNat (kk + 1) < (200 : Int)) = true := decide_eq_true (by simp; omega)
    have hwi : IntKind.i64.wrap (Int.ofNat (kk + 1) + 1) = Int.ofNat (kk + 1 + 1) := wrap_nat64 _ (by simp; omega) (by simp; omega)
    have hp := hpre kk hk
    have hk0 : 0 < K := by omega
    by_cases hcc : Int.ofNat (kk + 1) = wh
    · have hc : (Int.ofNat (kk + 1) == wh) = true := by simpa using hcc
      have hm : svM who fd w wh (kk + 1) (svN who fd w wh x kk).m = mStore (svN who fd w wh x kk).m 8 who fd w := svM_pos _ hcc
      have hy : svN who fd w wh x (kk + 1) = svS (mStore (svN who fd w wh x kk).m 8 who fd w) (svN who fd w wh x kk) := by rw [svN_succ, hm]
      have hta : (svN who fd w wh x (kk + 1)).ta = tkAt (memPut (svN who fd w wh x kk).m.M 8 who fd w) (svN who fd w wh x kk).F (svN who fd w wh x kk).ta (svN who fd w wh x kk).fl := by rw [hy]; rfl
      by_cases hl : kk + 1 = K
      · subst hl
        have hne := hta.symm.trans hov
        refine round_norm (s0 := svU n al g z0 z1 w wt bl who fd wh x) (T := fun i => svT n al g z0 z1 w wt bl who fd wh (kk + 1) x i) (i := SI.w kk) SI.o (svwtt_1 n al g z0 z1 w wt bl who fd wh kk x (svN who fd w wh x kk) (svN who fd w wh x (kk + 1))) (ob_cons rfl (ob_cons rfl (ob_cons rfl (ob_cons rfl (ob_cons rfl (ob_cons rfl (ob_cons rfl (ob_cons rfl (ob_cons rfl (ob_cons rfl (ob_cons rfl (ob_cons rfl (ob_cons ?_ (ob_cons rfl (ob_cons rfl (ob_cons rfl (ob_cons rfl (ob_cons ?_ (ob_cons ?_ (ob_cons rfl (ob_cons rfl (ob_cons (Nat.le_refl _) (ob_cons ?_ (ob_cons ?_ (ob_cons ?_ (ob_cons ?_ (ob_cons ?_ (ob_cons ?_ (ob_cons ?_ (ob_cons ?_ (ob_cons ?_ (ob_cons ?_ (ob_cons rfl (ob_cons (Nat.le_refl _) (ob_cons (.inl ⟨rfl, rfl⟩) (ob_cons rfl (ob_cons rfl (ob_cons ?_ (ob_cons ?_ (ob_cons (by decide) (ob_cons ?_ (ob_cons ?_ ob_nil)))))))))))))))))))))))))))))))))))))))))) (by trivial) (by show 0 < kk + 1 + 1 - kk; omega)
        ·
          first | with_reducible assumption | (rw [hy]; rfl) | exact .inl ⟨by rw [hy]; rfl, rfl⟩ | (rw [hy]; exact fun _ => rfl) | exact rfl | (simp; omega) | exact wrap_nat64 _ (by simp; omega) (by simp; omega)
        ·
          first | with_reducible assumption | (rw [hy]; rfl) | exact .inl ⟨by rw [hy]; rfl, rfl⟩ | (rw [hy]; exact fun _ => rfl) | exact rfl | (simp; omega) | rfl
        ·
          first | with_reducible assumption | (rw [hy]; rfl) | exact .inl ⟨by rw [hy]; rfl, rfl⟩ | (rw [hy]; exact fun _ => rfl) | exact rfl | (simp; omega) | rfl
        ·
          first | with_reducible assumption | (rw [hy]; rfl) | exact .inl ⟨by rw [hy]; rfl, rfl⟩ | (rw [hy]; exact fun _ => rfl) | exact rfl | (simp; omega) | exact .inl ⟨rfl, rfl⟩
        ·
          first | with_reducible assumption | (rw [hy]; rfl) | exact .inl ⟨by rw [hy]; rfl, rfl⟩ | (rw [hy]; exact fun _ => rfl) | exact rfl | (simp; omega) | exact wrap_nat64 _ (by simp; omega) (by simp; omega)
        ·
          first | with_reducible assumption | (rw [hy]; rfl) | exact .inl ⟨by rw [hy]; rfl, rfl⟩ | (rw [hy]; exact fun _ => rfl) | exact rfl | (simp; omega) | rfl
        ·
          first | with_reducible assumption | (rw [hy]; rfl) | exact .inl ⟨by rw [hy]; rfl, rfl⟩ | (rw [hy]; exact fun _ => rfl) | exact rfl | (simp; omega) | rfl
        ·
          first | with_reducible assumption | (rw [hy]; rfl) | exact .inl ⟨by rw [hy]; rfl, rfl⟩ | (rw [hy]; exact fun _ => rfl) | exact rfl | (simp; omega) | rfl
        ·
          first | with_reducible assumption | (rw [hy]; rfl) | exact .inl ⟨by rw [hy]; rfl, rfl⟩ | (rw [hy]; exact fun _ => rfl) | exact rfl | (simp; omega) | rfl
        ·
          first | with_reducible assumption | (rw [hy]; rfl) | exact .inl ⟨by rw [hy]; rfl, rfl⟩ | (rw [hy]; exact fun _ => rfl) | exact rfl | (simp; omega) | rfl
        ·
          first | with_reducible assumption | (rw [hy]; rfl) | exact .inl ⟨by rw [hy]; rfl, rfl⟩ | (rw [hy]; exact fun _ => rfl) | exact rfl | (simp; omega) | rfl
        ·
          first | with_reducible assumption | (rw [hy]; rfl) | exact .inl ⟨by rw [hy]; rfl, rfl⟩ | (rw [hy]; exact fun _ => rfl) | exact rfl | (simp; omega) | rfl
        ·
          first | with_reducible assumption | (rw [hy]; rfl) | exact .inl ⟨by rw [hy]; rfl, rfl⟩ | (rw [hy]; exact fun _ => rfl) | exact rfl | (simp; omega) | exact fun _ => rfl
        ·
          first | with_reducible assumption | (rw [hy]; rfl) | exact .inl ⟨by rw [hy]; rfl, rfl⟩ | (rw [hy]; exact fun _ => rfl) | exact rfl | (simp; omega) | trivial
        ·
          first | with_reducible assumption | (rw [hy]; rfl) | exact .inl ⟨by rw [hy]; rfl, rfl⟩ | (rw [hy]; exact fun _ => rfl) | exact rfl | (simp; omega) | rfl
        ·
          first | with_reducible assumption | (rw [hy]; rfl) | exact .inl ⟨by rw [hy]; rfl, rfl⟩ | (rw [hy]; exact fun _ => rfl) | exact rfl | (simp; omega) | (apply Nat.ble_eq_true_of_le; omega) | (simp [Nat.blt_eq]; omega)
        ·
          first | with_reducible assumption | (rw [hy]; rfl) | exact .inl ⟨by rw [hy]; rfl, rfl⟩ | (rw [hy]; exact fun _ => rfl) | exact rfl | (simp; omega) | (apply Nat.ble_eq_true_of_le; omega) | (simp [Nat.blt_eq]; omega)
      · have hne := fun e => hgo (kk + 1) (by omega) (hta.trans e)
        refine round_norm (s0 := svU n al g z0 z1 w wt bl who fd wh x) (T := fun i => svT n al g z0 z1 w wt bl who fd wh K x i) (i := SI.w kk) (SI.w (kk + 1)) (svwtf_1 n al g z0 z1 w wt bl who fd wh kk x (svN who fd w wh x kk) (svN who fd w wh x (kk + 1))) (ob_cons rfl (ob_cons rfl (ob_cons rfl (ob_cons rfl (ob_cons rfl (ob_cons rfl (ob_cons rfl (ob_cons rfl (ob_cons rfl (ob_cons rfl (ob_cons rfl (ob_cons rfl (ob_cons ?_ (ob_cons rfl (ob_cons rfl (ob_cons rfl (ob_cons rfl (ob_cons rfl (ob_cons rfl (ob_cons ?_ (ob_cons ?_ (ob_cons rfl (ob_cons rfl (ob_cons (Nat.le_refl _) (ob_cons ?_ (ob_cons ?_ (ob_cons ?_ (ob_cons ?_ (ob_cons ?_ (ob_cons ?_ (ob_cons ?_ (ob_cons ?_ (ob_cons ?_ (ob_cons ?_ (ob_cons rfl (ob_cons (Nat.le_refl _) (ob_cons (.inl ⟨rfl, rfl⟩) (ob_cons rfl (ob_cons rfl (ob_cons ?_ (ob_cons ?_ (ob_cons (by decide) (ob_cons ?_ (ob_cons ?_ ob_nil)))))))))))))))))))))))))))))))))))))))))))) (by show kk + 1 < K; omega) (by show K + 1 - (kk + 1) < K + 1 - kk; omega)
        ·
          first | with_reducible assumption | (rw [hy]; rfl) | exact .inl ⟨by rw [hy]; rfl, rfl⟩ | (rw [hy]; exact fun _ => rfl) | exact rfl | (simp; omega) | exact wrap_nat64 _ (by simp; omega) (by simp; omega)
        ·
          first | with_reducible assumption | (rw [hy]; rfl) | exact .inl ⟨by rw [hy]; rfl, rfl⟩ | (rw [hy]; exact fun _ => rfl) | exact rfl | (simp; omega) | rfl
        ·
          first | with_reducible assumption | (rw [hy]; rfl) | exact .inl ⟨by rw [hy]; rfl, rfl⟩ | (rw [hy]; exact fun _ => rfl) | exact rfl | (simp; omega) | rfl
        ·
          first | with_reducible assumption | (rw [hy]; rfl) | exact .inl ⟨by rw [hy]; rfl, rfl⟩ | (rw [hy]; exact fun _ => rfl) | exact rfl | (simp; omega) | exact .inl ⟨rfl, rfl⟩
        ·
          first | with_reducible assumption | (rw [hy]; rfl) | exact .inl ⟨by rw [hy]; rfl, rfl⟩ | (rw [hy]; exact fun _ => rfl) | exact rfl | (simp; omega) | exact wrap_nat64 _ (by simp; omega) (by simp; omega)
        ·
          first | with_reducible assumption | (rw [hy]; rfl) | exact .inl ⟨by rw [hy]; rfl, rfl⟩ | (rw [hy]; exact fun _ => rfl) | exact rfl | (simp; omega) | rfl
        ·
          first | with_reducible assumption | (rw [hy]; rfl) | exact .inl ⟨by rw [hy]; rfl, rfl⟩ | (rw [hy]; exact fun _ => rfl) | exact rfl | (simp; omega) | rfl
        ·
          first | with_reducible assumption | (rw [hy]; rfl) | exact .inl ⟨by rw [hy]; rfl, rfl⟩ | (rw [hy]; exact fun _ => rfl) | exact rfl | (simp; omega) | rfl
        ·
          first | with_reducible assumption | (rw [hy]; rfl) | exact .inl ⟨by rw [hy]; rfl, rfl⟩ | (rw [hy]; exact fun _ => rfl) | exact rfl | (simp; omega) | rfl
        ·
          first | with_reducible assumption | (rw [hy]; rfl) | exact .inl ⟨by rw [hy]; rfl, rfl⟩ | (rw [hy]; exact fun _ => rfl) | exact rfl | (simp; omega) | rfl
        ·
          first | with_reducible assumption | (rw [hy]; rfl) | exact .inl ⟨by rw [hy]; rfl, rfl⟩ | (rw [hy]; exact fun _ => rfl) | exact rfl | (simp; omega) | rfl
        ·
          first | with_reducible assumption | (rw [hy]; rfl) | exact .inl ⟨by rw [hy]; rfl, rfl⟩ | (rw [hy]; exact fun _ => rfl) | exact rfl | (simp; omega) | rfl
        ·
          first | with_reducible assumption | (rw [hy]; rfl) | exact .inl ⟨by rw [hy]; rfl, rfl⟩ | (rw [hy]; exact fun _ => rfl) | exact rfl | (simp; omega) | exact fun _ => rfl
        ·
          first | with_reducible assumption | (rw [hy]; rfl) | exact .inl ⟨by rw [hy]; rfl, rfl⟩ | (rw [hy]; exact fun _ => rfl) | exact rfl | (simp; omega) | trivial
        ·
          first | with_reducible assumption | (rw [hy]; rfl) | exact .inl ⟨by rw [hy]; rfl, rfl⟩ | (rw [hy]; exact fun _ => rfl) | exact rfl | (simp; omega) | trivial
        ·
          first | with_reducible assumption | (rw [hy]; rfl) | exact .inl ⟨by rw [hy]; rfl, rfl⟩ | (rw [hy]; exact fun _ => rfl) | exact rfl | (simp; omega) | (apply Nat.ble_eq_true_of_le; omega) | (simp [Nat.blt_eq]; omega)
        ·
          first | with_reducible assumption | (rw [hy]; rfl) | exact .inl ⟨by rw [hy]; rfl, rfl⟩ | (rw [hy]; exact fun _ => rfl) | exact rfl | (simp; omega) | (apply Nat.ble_eq_true_of_le; omega) | (simp [Nat.blt_eq]; omega)
    · have hc : (Int.ofNat (kk + 1) == wh) = false := by simpa using hcc
      have hm : svM who fd w wh (kk + 1) (svN who fd w wh x kk).m = (svN who fd w wh x kk).m := svM_neg _ hcc
      have hy : svN who fd w wh x (kk + 1) = svS (svN who fd w wh x kk).m (svN who fd w wh x kk) := by rw [svN_succ, hm]
      have hta : (svN who fd w wh x (kk + 1)).ta = tkAt (svN who fd w wh x kk).m.M (svN who fd w wh x kk).F (svN who fd w wh x kk).ta (svN who fd w wh x kk).fl := by rw [hy]; rfl
      by_cases hl : kk + 1 = K
      · subst hl
        have hne := hta.symm.trans hov
        refine round_norm (s0 := svU n al g z0 z1 w wt bl who fd wh x) (T := fun i => svT n al g z0 z1 w wt bl who fd wh (kk + 1) x i) (i := SI.w kk) SI.o (svwft_1 n al g z0 z1 w wt bl who fd wh kk x (svN who fd w wh x kk) (svN who fd w wh x (kk + 1))) (ob_cons rfl (ob_cons rfl (ob_cons rfl (ob_cons rfl (ob_cons rfl (ob_cons rfl (ob_cons rfl (ob_cons rfl (ob_cons rfl (ob_cons rfl (ob_cons rfl (ob_cons rfl (ob_cons ?_ (ob_cons rfl (ob_cons rfl (ob_cons rfl (ob_cons rfl (ob_cons ?_ (ob_cons ?_ (ob_cons rfl (ob_cons rfl (ob_cons (Nat.le_refl _) (ob_cons ?_ (ob_cons ?_ (ob_cons ?_ (ob_cons ?_ (ob_cons ?_ (ob_cons ?_ (ob_cons ?_ (ob_cons ?_ (ob_cons ?_ (ob_cons ?_ (ob_cons rfl (ob_cons (Nat.le_refl _) (ob_cons (.inl ⟨rfl, rfl⟩) (ob_cons rfl (ob_cons rfl (ob_cons ?_ (ob_cons ?_ (ob_cons ?_ (ob_cons ?_ ob_nil))))))))))))))))))))))))))))))))))))))))) (by trivial) (by show 0 < kk + 1 + 1 - kk; omega)
        ·
          first | with_reducible assumption | (rw [hy]; rfl) | exact .inl ⟨by rw [hy]; rfl, rfl⟩ | (rw [hy]; exact fun _ => rfl) | exact rfl | (simp; omega) | exact wrap_nat64 _ (by simp; omega) (by simp; omega)
        ·
          first | with_reducible assumption | (rw [hy]; rfl) | exact .inl ⟨by rw [hy]; rfl, rfl⟩ | (rw [hy]; exact fun _ => rfl) | exact rfl | (simp; omega) | rfl
        ·
          first | with_reducible assumption | (rw [hy]; rfl) | exact .inl ⟨by rw [hy]; rfl, rfl⟩ | (rw [hy]; exact fun _ => rfl) | exact rfl | (simp; omega) | rfl
        ·
          first | with_reducible assumption | (rw [hy]; rfl) | exact .inl ⟨by rw [hy]; rfl, rfl⟩ | (rw [hy]; exact fun _ => rfl) | exact rfl | (simp; omega) | exact .inl ⟨rfl, rfl⟩
        ·
          first | with_reducible assumption | (rw [hy]; rfl) | exact .inl ⟨by rw [hy]; rfl, rfl⟩ | (rw [hy]; exact fun _ => rfl) | exact rfl | (simp; omega) | exact wrap_nat64 _ (by simp; omega) (by simp; omega)
        ·
          first | with_reducible assumption | (rw [hy]; rfl) | exact .inl ⟨by rw [hy]; rfl, rfl⟩ | (rw [hy]; exact fun _ => rfl) | exact rfl | (simp; omega) | rfl
        ·
          first | with_reducible assumption | (rw [hy]; rfl) | exact .inl ⟨by rw [hy]; rfl, rfl⟩ | (rw [hy]; exact fun _ => rfl) | exact rfl | (simp; omega) | rfl
        ·
          first | with_reducible assumption | (rw [hy]; rfl) | exact .inl ⟨by rw [hy]; rfl, rfl⟩ | (rw [hy]; exact fun _ => rfl) | exact rfl | (simp; omega) | rfl
        ·
          first | with_reducible assumption | (rw [hy]; rfl) | exact .inl ⟨by rw [hy]; rfl, rfl⟩ | (rw [hy]; exact fun _ => rfl) | exact rfl | (simp; omega) | rfl
        ·
          first | with_reducible assumption | (rw [hy]; rfl) | exact .inl ⟨by rw [hy]; rfl, rfl⟩ | (rw [hy]; exact fun _ => rfl) | exact rfl | (simp; omega) | rfl
        ·
          first | with_reducible assumption | (rw [hy]; rfl) | exact .inl ⟨by rw [hy]; rfl, rfl⟩ | (rw [hy]; exact fun _ => rfl) | exact rfl | (simp; omega) | rfl
        ·
          first | with_reducible assumption | (rw [hy]; rfl) | exact .inl ⟨by rw [hy]; rfl, rfl⟩ | (rw [hy]; exact fun _ => rfl) | exact rfl | (simp; omega) | rfl
        ·
          first | with_reducible assumption | (rw [hy]; rfl) | exact .inl ⟨by rw [hy]; rfl, rfl⟩ | (rw [hy]; exact fun _ => rfl) | exact rfl | (simp; omega) | exact fun _ => rfl
        ·
          first | with_reducible assumption | (rw [hy]; rfl) | exact .inl ⟨by rw [hy]; rfl, rfl⟩ | (rw [hy]; exact fun _ => rfl) | exact rfl | (simp; omega) | trivial
        ·
          first | with_reducible assumption | (rw [hy]; rfl) | exact .inl ⟨by rw [hy]; rfl, rfl⟩ | (rw [hy]; exact fun _ => rfl) | exact rfl | (simp; omega) | rfl
        ·
          first | with_reducible assumption | (rw [hy]; rfl) | exact .inl ⟨by rw [hy]; rfl, rfl⟩ | (rw [hy]; exact fun _ => rfl) | exact rfl | (simp; omega) | (apply Nat.ble_eq_true_of_le; omega) | (simp [Nat.blt_eq]; omega)
        ·
          first | with_reducible assumption | (rw [hy]; rfl) | exact .inl ⟨by rw [hy]; rfl, rfl⟩ | (rw [hy]; exact fun _ => rfl) | exact rfl | (simp; omega) | (apply Nat.ble_eq_true_of_le; omega) | (simp [Nat.blt_eq]; omega)
      · have hne := fun e => hgo (kk + 1) (by omega) (hta.trans e)
        refine round_norm (s0 := svU n al g z0 z1 w wt bl who fd wh x) (T := fun i => svT n al g z0 z1 w wt bl who fd wh K x i) (i := SI.w kk) (SI.w (kk + 1)) (svwff_1 n al g z0 z1 w wt bl who fd wh kk x (svN who fd w wh x kk) (svN who fd w wh x (kk + 1))) (ob_cons rfl (ob_cons rfl (ob_cons rfl (ob_cons rfl (ob_cons rfl (ob_cons rfl (ob_cons rfl (ob_cons rfl (ob_cons rfl (ob_cons rfl (ob_cons rfl (ob_cons rfl (ob_cons ?_ (ob_cons rfl (ob_cons rfl (ob_cons rfl (ob_cons rfl (ob_cons rfl (ob_cons rfl (ob_cons ?_ (ob_cons ?_ (ob_cons rfl (ob_cons rfl (ob_cons (Nat.le_refl _) (ob_cons ?_ (ob_cons ?_ (ob_cons ?_ (ob_cons ?_ (ob_cons ?_ (ob_cons ?_ (ob_cons ?_ (ob_cons ?_ (ob_cons ?_ (ob_cons ?_ (ob_cons rfl (ob_cons (Nat.le_refl _) (ob_cons (.inl ⟨rfl, rfl⟩) (ob_cons rfl (ob_cons rfl (ob_cons ?_ (ob_cons ?_ (ob_cons ?_ (ob_cons ?_ ob_nil))))))))))))))))))))))))))))))))))))))))))) (by show kk + 1 < K; omega) (by show K + 1 - (kk + 1) < K + 1 - kk; omega)
        ·
          first | with_reducible assumption | (rw [hy]; rfl) | exact .inl ⟨by rw [hy]; rfl, rfl⟩ | (rw [hy]; exact fun _ => rfl) | exact rfl | (simp; omega) | exact wrap_nat64 _ (by simp; omega) (by simp; omega)
        ·
          first | with_reducible assumption | (rw [hy]; rfl) | exact .inl ⟨by rw [hy]; rfl, rfl⟩ | (rw [hy]; exact fun _ => rfl) | exact rfl | (simp; omega) | rfl
        ·
          first | with_reducible assumption | (rw [hy]; rfl) | exact .inl ⟨by rw [hy]; rfl, rfl⟩ | (rw [hy]; exact fun _ => rfl) | exact rfl | (simp; omega) | rfl
        ·
          first | with_reducible assumption | (rw [hy]; rfl) | exact .inl ⟨by rw [hy]; rfl, rfl⟩ | (rw [hy]; exact fun _ => rfl) | exact rfl | (simp; omega) | exact .inl ⟨rfl, rfl⟩
        ·
          first | with_reducible assumption | (rw [hy]; rfl) | exact .inl ⟨by rw [hy]; rfl, rfl⟩ | (rw [hy]; exact fun _ => rfl) | exact rfl | (simp; omega) | exact wrap_nat64 _ (by simp; omega) (by simp; omega)
        ·
          first | with_reducible assumption | (rw [hy]; rfl) | exact .inl ⟨by rw [hy]; rfl, rfl⟩ | (rw [hy]; exact fun _ => rfl) | exact rfl | (simp; omega) | rfl
        ·
          first | with_reducible assumption | (rw [hy]; rfl) | exact .inl ⟨by rw [hy]; rfl, rfl⟩ | (rw [hy]; exact fun _ => rfl) | exact rfl | (simp; omega) | rfl
        ·
          first | with_reducible assumption | (rw [hy]; rfl) | exact .inl ⟨by rw [hy]; rfl, rfl⟩ | (rw [hy]; exact fun _ => rfl) | exact rfl | (simp; omega) | rfl
        ·
          first | with_reducible assumption | (rw [hy]; rfl) | exact .inl ⟨by rw [hy]; rfl, rfl⟩ | (rw [hy]; exact fun _ => rfl) | exact rfl | (simp; omega) | rfl
        ·
          first | with_reducible assumption | (rw [hy]; rfl) | exact .inl ⟨by rw [hy]; rfl, rfl⟩ | (rw [hy]; exact fun _ => rfl) | exact rfl | (simp; omega) | rfl
        ·
          first | with_reducible assumption | (rw [hy]; rfl) | exact .inl ⟨by rw [hy]; rfl, rfl⟩ | (rw [hy]; exact fun _ => rfl) | exact rfl | (simp; omega) | rfl
        ·
          first | with_reducible assumption | (rw [hy]; rfl) | exact .inl ⟨by rw [hy]; rfl, rfl⟩ | (rw [hy]; exact fun _ => rfl) | exact rfl | (simp; omega) | rfl
        ·
          first | with_reducible assumption | (rw [hy]; rfl) | exact .inl ⟨by rw [hy]; rfl, rfl⟩ | (rw [hy]; exact fun _ => rfl) | exact rfl | (simp; omega) | exact fun _ => rfl
        ·
          first | with_reducible assumption | (rw [hy]; rfl) | exact .inl ⟨by rw [hy]; rfl, rfl⟩ | (rw [hy]; exact fun _ => rfl) | exact rfl | (simp; omega) | trivial
        ·
          first | with_reducible assumption | (rw [hy]; rfl) | exact .inl ⟨by rw [hy]; rfl, rfl⟩ | (rw [hy]; exact fun _ => rfl) | exact rfl | (simp; omega) | trivial
        ·
          first | with_reducible assumption | (rw [hy]; rfl) | exact .inl ⟨by rw [hy]; rfl, rfl⟩ | (rw [hy]; exact fun _ => rfl) | exact rfl | (simp; omega) | (apply Nat.ble_eq_true_of_le; omega) | (simp [Nat.blt_eq]; omega)
        ·
          first | with_reducible assumption | (rw [hy]; rfl) | exact .inl ⟨by rw [hy]; rfl, rfl⟩ | (rw [hy]; exact fun _ => rfl) | exact rfl | (simp; omega) | (apply Nat.ble_eq_true_of_le; omega) | (simp [Nat.blt_eq]; omega)
  · have hi2 : decide (Int.ofNat (K + 1) < (200 : Int)) = true := decide_eq_true (by simp; omega)
    refine round_exit (s0 := svU n al g z0 z1 w wt bl who fd wh x) (T := fun i => svT n al g z0 z1 w wt bl who fd wh K x i) (i := SI.o) (svx_1 n al g z0 z1 w wt bl who fd wh K x (svN who fd w wh x K) (svN who fd w wh x K)) (by simp) (ob_cons rfl (ob_cons rfl (ob_cons rfl (ob_cons rfl (ob_cons rfl (ob_cons rfl (ob_cons rfl (ob_cons rfl (ob_cons rfl (ob_cons rfl (ob_cons rfl (ob_cons rfl (ob_cons rfl (ob_cons rfl (ob_cons rfl (ob_cons rfl (ob_cons rfl (ob_cons rfl (ob_cons (Nat.le_refl _) (ob_cons (.inl ⟨rfl, rfl⟩) (ob_cons rfl (ob_cons rfl (ob_cons rfl (ob_cons rfl (ob_cons rfl (ob_cons rfl (ob_cons rfl (ob_cons rfl (ob_cons (fun _ => rfl) (ob_cons rfl (ob_cons (Nat.le_refl _) (ob_cons (.inl ⟨rfl, rfl⟩) (ob_cons ?_ ob_nil)))))))))))))))))))))))))))))))))
    ·
      first | exact hi2 | exact rfl | (apply Nat.ble_eq_true_of_le; omega) | (simp [Nat.blt_eq]; omega)

end Go.Proofs.Ytmlfmmnnbdlabaa
