/-
  Chapter 14: the loop of taken.
-/
import Derived.Test.YtmlfmmnnbdlabaaNSkDef
set_option linter.unusedSimpArgs false
set_option linter.unusedVariables false
namespace Go.Proofs.Ytmlfmmnnbdlabaa
open Go.Ev
theorem skb_1 (al : Nat) (mo : Int) (x0 x : MS) (y : SV) : roundB ESk 4000 skL ((skU al mo x0).hp) [(5, Src.nm 5)] (skU al mo x) [Hint.b true, Hint.b false] (skW al mo 0 y) =
 some (Ex.norm, [(0 : Nat) = 0,
 (0 : Nat) = 0,
 mo = mo,
 (0 : Nat) = 0,
 (0 : Nat) = 0,
 (0 : Nat) = 0,
 (0 : Nat) = 0,
 (1 : Int) = 1,
 (0 : Nat) = 0,
 (0 : Nat) = 0,
 (0 : Nat) = 0,
 (0 : Nat) = 0,
 (0 : Nat) = 0,
 (tbN x.M).toNat = al,
 some (tbN x.M).toNat = some al,
 (0 : Int) = 0,
 0 = y.ta,
 0 = y.fl,
 tbN x.M = Int.ofNat al,
 false = false,
 al ≤ (tbN x.M).toNat,
 y.F = tF0 ∧ plainSh tSh = true ∨ ∀ (i : Nat), i < al → rowOb tSh 0 (tF0 i) (y.F i),
 IntKind.i64.wrap (x.st + 1) = y.m.st,
 1 = y.m.L.c,
 5 = y.m.L.k,
 0 = y.m.L.a,
 0 = y.m.L.f,
 mget x.M (key 5 0 0) = y.m.L.w,
 mget x.M (key 5 0 0) = y.m.L.i,
 false = y.m.L.d,
 ∀ (k : List Int), x.M k = y.m.M k,
 0 ≤ mget x.M (key 5 0 0),
 tbN x.M ≠ 0,
 decide (0 < mo) = true]) := by kernel_rfl
theorem skwt_1 (al : Nat) (mo : Int) (kk : Nat) (x0 : MS) (s y : SV) : roundB ESk 4000 skL ((skU al mo x0).hp) [(5, Src.nm 5)] (skW al mo kk s) [Hint.b true, Hint.b true] (skO al mo (kk + 1) y) =
 some (Ex.norm, [(0 : Nat) = 0,
 (0 : Nat) = 0,
 mo = mo,
 (0 : Nat) = 0,
 (0 : Nat) = 0,
 (0 : Nat) = 0,
 (0 : Nat) = 0,
 IntKind.i64.wrap (Int.ofNat (kk + 1) + 1) = Int.ofNat (kk + 1 + 1),
 (0 : Nat) = 0,
 (0 : Nat) = 0,
 (0 : Nat) = 0,
 al = al,
 some al = some al,
 (0 : Int) = 0,
 tkAt s.m.M s.F s.ta s.fl = y.ta,
 tkFl s.m.M s.F s.ta s.fl = y.fl,
 Int.ofNat al = Int.ofNat al,
 false = false,
 al ≤ al,
 y.F = tkF s.F s.ta s.fl (mget s.m.M (key 8 s.ta s.fl)) ∧ plainSh tSh = true ∨ ∀ (i : Nat), i < al → rowOb tSh 0 (tkF s.F s.ta s.fl (mget s.m.M (key 8 s.ta s.fl)) i) (y.F i),
 IntKind.i64.wrap (s.m.st + 1) = y.m.st,
 1 = y.m.L.c,
 8 = y.m.L.k,
 s.ta = y.m.L.a,
 s.fl = y.m.L.f,
 mget s.m.M (key 8 s.ta s.fl) = y.m.L.w,
 mget s.m.M (key 8 s.ta s.fl) = y.m.L.i,
 false = y.m.L.d,
 ∀ (k : List Int), s.m.M k = y.m.M k,
 some al = some al,
 al = al,
 TkPre s.F s.ta s.fl (Int.ofNat al) al,
 tkAt s.m.M s.F s.ta s.fl = Int.ofNat al,
 decide (Int.ofNat (kk + 1) < mo) = true]) := by kernel_rfl
theorem skwf_1 (al : Nat) (mo : Int) (kk : Nat) (x0 : MS) (s y : SV) : roundB ESk 4000 skL ((skU al mo x0).hp) [(5, Src.nm 5)] (skW al mo kk s) [Hint.b true, Hint.b false] (skW al mo (kk + 1) y) =
 some (Ex.norm, [(0 : Nat) = 0,
 (0 : Nat) = 0,
 mo = mo,
 (0 : Nat) = 0,
 (0 : Nat) = 0,
 (0 : Nat) = 0,
 (0 : Nat) = 0,
 IntKind.i64.wrap (Int.ofNat (kk + 1) + 1) = Int.ofNat (kk + 1 + 1),
 (0 : Nat) = 0,
 (0 : Nat) = 0,
 (0 : Nat) = 0,
 (0 : Nat) = 0,
 (0 : Nat) = 0,
 al = al,
 some al = some al,
 (0 : Int) = 0,
 tkAt s.m.M s.F s.ta s.fl = y.ta,
 tkFl s.m.M s.F s.ta s.fl = y.fl,
 Int.ofNat al = Int.ofNat al,
 false = false,
 al ≤ al,
 y.F = tkF s.F s.ta s.fl (mget s.m.M (key 8 s.ta s.fl)) ∧ plainSh tSh = true ∨ ∀ (i : Nat), i < al → rowOb tSh 0 (tkF s.F s.ta s.fl (mget s.m.M (key 8 s.ta s.fl)) i) (y.F i),
 IntKind.i64.wrap (s.m.st + 1) = y.m.st,
 1 = y.m.L.c,
 8 = y.m.L.k,
 s.ta = y.m.L.a,
 s.fl = y.m.L.f,
 mget s.m.M (key 8 s.ta s.fl) = y.m.L.w,
 mget s.m.M (key 8 s.ta s.fl) = y.m.L.i,
 false = y.m.L.d,
 ∀ (k : List Int), s.m.M k = y.m.M k,
 some al = some al,
 al = al,
 TkPre s.F s.ta s.fl (Int.ofNat al) al,
 tkAt s.m.M s.F s.ta s.fl ≠ Int.ofNat al,
 decide (Int.ofNat (kk + 1) < mo) = true]) := by kernel_rfl
theorem skx_1 (al : Nat) (mo : Int) (kk : Nat) (x0 : MS) (s y : SV) : roundB ESk 4000 skL ((skU al mo x0).hp) [(5, Src.nm 5)] (skO al mo kk s) [Hint.b true] (skX al mo s) =
 some (Ex.exit 0, [(0 : Nat) = 0,
 (0 : Nat) = 0,
 mo = mo,
 (0 : Nat) = 0,
 (0 : Nat) = 0,
 (0 : Nat) = 0,
 (0 : Nat) = 0,
 (0 : Nat) = 0,
 (0 : Nat) = 0,
 (0 : Nat) = 0,
 al = al,
 some al = some al,
 (0 : Int) = 0,
 s.ta = s.ta,
 s.fl = s.fl,
 Int.ofNat al = Int.ofNat al,
 false = false,
 al ≤ al,
 s.F = s.F ∧ plainSh tSh = true ∨ ∀ (i : Nat), i < al → rowOb tSh 0 (s.F i) (s.F i),
 s.m.st = s.m.st,
 s.m.L.c = s.m.L.c,
 s.m.L.k = s.m.L.k,
 s.m.L.a = s.m.L.a,
 s.m.L.f = s.m.L.f,
 s.m.L.w = s.m.L.w,
 s.m.L.i = s.m.L.i,
 s.m.L.d = s.m.L.d,
 ∀ (k : List Int), s.m.M k = s.m.M k,
 decide (Int.ofNat (kk + 1) < mo) = true]) := by kernel_rfl
theorem ski_1 (al : Nat) (mo : Int) (x : MS) : castSt ((skU al mo x).hp) [] (skU al mo x) (skU al mo x) =
 some ([(0 : Nat) = 0,
 (0 : Nat) = 0,
 mo = mo,
 (0 : Nat) = 0,
 (0 : Nat) = 0,
 (0 : Nat) = 0,
 (0 : Nat) = 0,
 (0 : Nat) = 0,
 (0 : Nat) = 0,
 (0 : Nat) = 0,
 (0 : Nat) = 0,
 x.st = x.st,
 x.L.c = x.L.c,
 x.L.k = x.L.k,
 x.L.a = x.L.a,
 x.L.f = x.L.f,
 x.L.w = x.L.w,
 x.L.i = x.L.i,
 x.L.d = x.L.d,
 ∀ (k : List Int), x.M k = x.M k]) := by kernel_rfl
theorem skN_zero (x : MS) : svN 0 0 0 (-1) x 0 = svZ x := by rw [svN_zero, svM_no]
theorem skN_succ (x : MS) (k : Nat) : svN 0 0 0 (-1) x (k + 1) = svS (svN 0 0 0 (-1) x k).m (svN 0 0 0 (-1) x k) := by rw [svN_succ, svM_no]
attribute [local irreducible] svN tkAt tkFl tkF tbN mget memPut svM
theorem sk_lp (al : Nat) (mo : Int) (K : Nat) (x : MS) (hmo : mo = 200) (hK : K < 190) (hK1 : 1 < K) (hb : 0 ≤ mget x.M (key 5 0 0)) (hal : tbN x.M = Int.ofNat al) (ha0 : al ≠ 0)
    (hpre : ∀ k, k < K → TkPre (svN 0 0 0 (-1) x k).F (svN 0 0 0 (-1) x k).ta (svN 0 0 0 (-1) x k).fl (Int.ofNat al) al)
    (hgo : ∀ k, k < K → (svN 0 0 0 (-1) x k).ta ≠ Int.ofNat al) (hov : (svN 0 0 0 (-1) x K).ta = Int.ofNat al) : skLP al mo x (svN 0 0 0 (-1) x K) := by
  refine loop_rule ESk_ok (I := SI) (fun i => skT al mo K x i) (svMu K) (svI K) ?_ (fun ii hi => ?_)
  ·
    refine ⟨SI.b, [], _, trivial, ski_1 .., (ob_cons rfl (ob_cons rfl (ob_cons rfl (ob_cons rfl (ob_cons rfl (ob_cons rfl (ob_cons rfl (ob_cons rfl (ob_cons rfl (ob_cons rfl (ob_cons rfl (ob_cons rfl (ob_cons rfl (ob_cons rfl (ob_cons rfl (ob_cons rfl (ob_cons rfl (ob_cons rfl (ob_cons rfl (ob_cons (fun _ => rfl) ob_nil))))))))))))))))))))⟩
  rcases ii with _ | kk | _
  · have hlen : (tbN x.M).toNat = al := by rw [hal]; rfl
    have hlen2 : some (tbN x.M).toNat = some al := by rw [hlen]
    have hnz : tbN x.M ≠ 0 := by rw [hal]; intro h; exact ha0 (by simpa using h)
    have hi2 : decide ((0 : Int) < mo) = true := by rw [hmo]; decide
    have hy : svN 0 0 0 (-1) x 0 = svZ x := skN_zero x
    refine round_norm (s0 := skU al mo x) (T := fun i => skT al mo K x i) (i := SI.b) (SI.w 0) (skb_1 al mo x x (svN 0 0 0 (-1) x 0)) (ob_cons rfl (ob_cons rfl (ob_cons rfl (ob_cons rfl (ob_cons rfl (ob_cons rfl (ob_cons rfl (ob_cons rfl (ob_cons rfl (ob_cons rfl (ob_cons rfl (ob_cons rfl (ob_cons rfl (ob_cons ?_ (ob_cons ?_ (ob_cons rfl (ob_cons ?_ (ob_cons ?_ (ob_cons ?_ (ob_cons rfl (ob_cons ?_ (ob_cons ?_ (ob_cons ?_ (ob_cons ?_ (ob_cons ?_ (ob_cons ?_ (ob_cons ?_ (ob_cons ?_ (ob_cons ?_ (ob_cons ?_ (ob_cons ?_ (ob_cons ?_ (ob_cons ?_ (ob_cons ?_ ob_nil)))))))))))))))))))))))))))))))))) (by show 0 < K; omega) (by show K + 1 - 0 < K + 2; omega)
    · with_reducible assumption
    · with_reducible assumption
    · (rw [hy]; rfl)
    · (rw [hy]; rfl)
    · with_reducible assumption
    · omega
    · exact .inl ⟨by rw [hy]; rfl, rfl⟩
    · (rw [hy]; rfl)
    · (rw [hy]; rfl)
    · (rw [hy]; rfl)
    · (rw [hy]; rfl)
    · (rw [hy]; rfl)
    · (rw [hy]; rfl)
    · (rw [hy]; rfl)
    · (rw [hy]; rfl)
    · (rw [hy]; exact fun _ => rfl)
    · with_reducible assumption
    · with_reducible assumption
    · with_reducible assumption
  · have hk : kk < K := hi
    have hi2 : decide (Int.ofNat (kk + 1) < mo) = true := by rw [hmo]; exact decide_eq_true (by simp; omega)
    have hwi : IntKind.i64.wrap (Int.ofNat (kk + 1) + 1) = Int.ofNat (kk + 1 + 1) := wrap_nat64 _ (by simp; omega) (by simp; omega)
    have hp := hpre kk hk
    have hk0 : 0 < K := by omega
    have hy : svN 0 0 0 (-1) x (kk + 1) = svS (svN 0 0 0 (-1) x kk).m (svN 0 0 0 (-1) x kk) := skN_succ x kk
    have hta : (svN 0 0 0 (-1) x (kk + 1)).ta = tkAt (svN 0 0 0 (-1) x kk).m.M (svN 0 0 0 (-1) x kk).F (svN 0 0 0 (-1) x kk).ta (svN 0 0 0 (-1) x kk).fl := by rw [hy]; rfl
    by_cases hl : kk + 1 = K
    · subst hl
      have hne := hta.symm.trans hov
      refine round_norm (s0 := skU al mo x) (T := fun i => skT al mo (kk + 1) x i) (i := SI.w kk) SI.o (skwt_1 al mo kk x (svN 0 0 0 (-1) x kk) (svN 0 0 0 (-1) x (kk + 1))) (ob_cons rfl (ob_cons rfl (ob_cons rfl (ob_cons rfl (ob_cons rfl (ob_cons rfl (ob_cons rfl (ob_cons ?_ (ob_cons rfl (ob_cons rfl (ob_cons rfl (ob_cons rfl (ob_cons rfl (ob_cons rfl (ob_cons ?_ (ob_cons ?_ (ob_cons rfl (ob_cons rfl (ob_cons (Nat.le_refl _) (ob_cons ?_ (ob_cons ?_ (ob_cons ?_ (ob_cons ?_ (ob_cons ?_ (ob_cons ?_ (ob_cons ?_ (ob_cons ?_ (ob_cons ?_ (ob_cons ?_ (ob_cons rfl (ob_cons rfl (ob_cons ?_ (ob_cons ?_ (ob_cons ?_ ob_nil)))))))))))))))))))))))))))))))))) (by trivial) (by show 0 < kk + 1 + 1 - kk; omega)
      · with_reducible assumption
      · (rw [hy]; rfl)
      · (rw [hy]; rfl)
      · exact .inl ⟨by rw [hy]; rfl, rfl⟩
      · (rw [hy]; rfl)
      · (rw [hy]; rfl)
      · (rw [hy]; rfl)
      · (rw [hy]; rfl)
      · (rw [hy]; rfl)
      · (rw [hy]; rfl)
      · (rw [hy]; rfl)
      · (rw [hy]; rfl)
      · (rw [hy]; exact fun _ => rfl)
      · with_reducible assumption
      · with_reducible assumption
      · with_reducible assumption
    · have hne := fun e => hgo (kk + 1) (by omega) (hta.trans e)
      refine round_norm (s0 := skU al mo x) (T := fun i => skT al mo K x i) (i := SI.w kk) (SI.w (kk + 1)) (skwf_1 al mo kk x (svN 0 0 0 (-1) x kk) (svN 0 0 0 (-1) x (kk + 1))) (ob_cons rfl (ob_cons rfl (ob_cons rfl (ob_cons rfl (ob_cons rfl (ob_cons rfl (ob_cons rfl (ob_cons ?_ (ob_cons rfl (ob_cons rfl (ob_cons rfl (ob_cons rfl (ob_cons rfl (ob_cons rfl (ob_cons rfl (ob_cons rfl (ob_cons ?_ (ob_cons ?_ (ob_cons rfl (ob_cons rfl (ob_cons (Nat.le_refl _) (ob_cons ?_ (ob_cons ?_ (ob_cons ?_ (ob_cons ?_ (ob_cons ?_ (ob_cons ?_ (ob_cons ?_ (ob_cons ?_ (ob_cons ?_ (ob_cons ?_ (ob_cons rfl (ob_cons rfl (ob_cons ?_ (ob_cons ?_ (ob_cons ?_ ob_nil)))))))))))))))))))))))))))))))))))) (by show kk + 1 < K; omega) (by show K + 1 - (kk + 1) < K + 1 - kk; omega)
      · with_reducible assumption
      · (rw [hy]; rfl)
      · (rw [hy]; rfl)
      · exact .inl ⟨by rw [hy]; rfl, rfl⟩
      · (rw [hy]; rfl)
      · (rw [hy]; rfl)
      · (rw [hy]; rfl)
      · (rw [hy]; rfl)
      · (rw [hy]; rfl)
      · (rw [hy]; rfl)
      · (rw [hy]; rfl)
      · (rw [hy]; rfl)
      · (rw [hy]; exact fun _ => rfl)
      · with_reducible assumption
      · with_reducible assumption
      · with_reducible assumption
  · have hi2 : decide (Int.ofNat (K + 1) < mo) = true := by rw [hmo]; exact decide_eq_true (by simp; omega)
    refine round_exit (s0 := skU al mo x) (T := fun i => skT al mo K x i) (i := SI.o) (skx_1 al mo K x (svN 0 0 0 (-1) x K) (svN 0 0 0 (-1) x K)) (by simp) (ob_cons rfl (ob_cons rfl (ob_cons rfl (ob_cons rfl (ob_cons rfl (ob_cons rfl (ob_cons rfl (ob_cons rfl (ob_cons rfl (ob_cons rfl (ob_cons rfl (ob_cons rfl (ob_cons rfl (ob_cons rfl (ob_cons rfl (ob_cons rfl (ob_cons rfl (ob_cons (Nat.le_refl _) (ob_cons (.inl ⟨rfl, rfl⟩) (ob_cons rfl (ob_cons rfl (ob_cons rfl (ob_cons rfl (ob_cons rfl (ob_cons rfl (ob_cons rfl (ob_cons rfl (ob_cons (fun _ => rfl) (ob_cons ?_ ob_nil)))))))))))))))))))))))))))))
    · exact hi2

end Go.Proofs.Ytmlfmmnnbdlabaa
