/-
  The document's Take: line by line.
-/
import Derived.Test.YtmndhjodbnojdaaDoorJRaDef
set_option linter.unusedSimpArgs false
set_option linter.unusedVariables false
namespace Go.Proofs.YtmndhjodbnojdaaDoor
open Go.Ev
theorem rk0_1 (n : Nat) (l : Nat) (f : Nat → Nat → AV) (at_ : Int) (h : Int) (sl : Int) (e : Enty) (nw : Nat) (lw : Nat) (g : Nat → Nat → AV) (s2 : Int) (L2 : LS) : callB ERk 3000 96 [AV.ptr 1 0 0, AV.ptr 3 0 0] (rk0H n l f at_ h sl e nw lw g s2 L2) (rk0R n l f at_ h sl e nw lw g s2 L2) [(5, Src.nm 2), (6, Src.nm 4)] [] =
 some ([(0 : Int) = 0,
 (0 : Nat) = 0,
 n = teN n (TO.mk 0 h sl e),
 (none : Option Nat) = none,
 at_ = at_,
 h = (rkO n (mkR nw g s2 L2) (TO.mk 0 h sl e)).h,
 sl = (rkO n (mkR nw g s2 L2) (TO.mk 0 h sl e)).sl,
 e.slot = (rkO n (mkR nw g s2 L2) (TO.mk 0 h sl e)).e.slot,
 e.gen = (rkO n (mkR nw g s2 L2) (TO.mk 0 h sl e)).e.gen,
 e.mark = (rkO n (mkR nw g s2 L2) (TO.mk 0 h sl e)).e.mark,
 e.birth = (rkO n (mkR nw g s2 L2) (TO.mk 0 h sl e)).e.birth,
 e.epoch = (rkO n (mkR nw g s2 L2) (TO.mk 0 h sl e)).e.epoch,
 e.era = (rkO n (mkR nw g s2 L2) (TO.mk 0 h sl e)).e.era,
 false = false,
 teN n (TO.mk 0 h sl e) ≤ l,
 yF (rkE n (fun i => yOf (f i)) (mkR nw g s2 L2) (TO.mk 0 h sl e)) = f ∧ plainSh ySh = true ∨ ∀ (i : Nat), i < teN n (TO.mk 0 h sl e) → rowOb ySh 0 (f i) (yF (rkE n (fun i => yOf (f i)) (mkR nw g s2 L2) (TO.mk 0 h sl e)) i),
 (0 : Nat) = 0,
 nw = (rkS (mkR nw g s2 L2) (TO.mk 0 h sl e)).D.n,
 (none : Option Nat) = none,
 s2 = (rkS (mkR nw g s2 L2) (TO.mk 0 h sl e)).st,
 L2.c = (rkS (mkR nw g s2 L2) (TO.mk 0 h sl e)).L.c,
 L2.k = (rkS (mkR nw g s2 L2) (TO.mk 0 h sl e)).L.k,
 L2.a = (rkS (mkR nw g s2 L2) (TO.mk 0 h sl e)).L.a,
 L2.f = (rkS (mkR nw g s2 L2) (TO.mk 0 h sl e)).L.f,
 L2.w = (rkS (mkR nw g s2 L2) (TO.mk 0 h sl e)).L.w,
 L2.i = (rkS (mkR nw g s2 L2) (TO.mk 0 h sl e)).L.i,
 L2.d = (rkS (mkR nw g s2 L2) (TO.mk 0 h sl e)).L.d,
 false = false,
 (rkS (mkR nw g s2 L2) (TO.mk 0 h sl e)).D.n ≤ lw,
 wdF (rkS (mkR nw g s2 L2) (TO.mk 0 h sl e)).D.W = g ∧ plainSh wSh = true ∨ ∀ (i : Nat), i < (rkS (mkR nw g s2 L2) (TO.mk 0 h sl e)).D.n → rowOb wSh 0 (g i) (wdF (rkS (mkR nw g s2 L2) (TO.mk 0 h sl e)).D.W i),
 0 ≤ h,
 h < 18446744073709551616]) := by kernel_rfl
theorem rk0_loc (n : Nat) (l : Nat) (f : Nat → Nat → AV) (at_ : Int) (h : Int) (sl : Int) (e : Enty) (nw : Nat) (lw : Nat) (g : Nat → Nat → AV) (s2 : Int) (L2 : LS) : LocOk Tryd.prog 96 [.ptr 1 0 0, .ptr 3 0 0] (rk0H n l f at_ h sl e nw lw g s2 L2) (rk0R n l f at_ h sl e nw lw g s2 L2) := by
  refine loc_of_call ERk_ok (fun hp => ?_)
  have hnl : n ≤ l ∧ n ≤ 1000000 := hp _ (List.mem_cons_self ..)
  have hh : R64 h := hp _ (List.mem_cons_of_mem _ (List.mem_cons_self ..))
  have hR : RU nw lw g := hp _ (List.mem_cons_of_mem _ (List.mem_cons_of_mem _ (List.mem_cons_self ..)))
  clear hp
  have hRb := hR.b

  refine ⟨3000, _, _, _, rk0_1 .., (cj ⟨rfl, rfl, rfl, rfl, rfl, rfl, rfl, rfl, rfl, rfl, rfl, rfl, rfl, rfl, hnl.1, .inr (sameY_rows _), rfl, rfl, rfl, rfl, rfl, rfl, rfl, rfl, rfl, rfl, rfl, rfl, hR.a, .inr (sameW_rows _), hh.1, hh.2, trivial⟩)⟩
theorem rk1a_1 (n : Nat) (l : Nat) (f : Nat → Nat → AV) (at_ : Int) (h : Int) (sl : Int) (e : Enty) (nw : Nat) (lw : Nat) (g : Nat → Nat → AV) (s2 : Int) (L2 : LS) : callB ERk 3000 96 [AV.ptr 1 0 0, AV.ptr 3 0 0] (rk1aH n l f at_ h sl e nw lw g s2 L2) (rk1aR n l f at_ h sl e nw lw g s2 L2) [(5, Src.nm 2), (6, Src.nm 4)] [Hint.b true] =
 some ([0 = (rkO n (mkR nw g s2 L2) (TO.mk 1 h sl e)).ln,
 (0 : Nat) = 0,
 n = teN n (TO.mk 1 h sl e),
 (none : Option Nat) = none,
 at_ = at_,
 dWord (dOf nw g) 4 0 0 = (rkO n (mkR nw g s2 L2) (TO.mk 1 h sl e)).h,
 sl = (rkO n (mkR nw g s2 L2) (TO.mk 1 h sl e)).sl,
 e.slot = (rkO n (mkR nw g s2 L2) (TO.mk 1 h sl e)).e.slot,
 e.gen = (rkO n (mkR nw g s2 L2) (TO.mk 1 h sl e)).e.gen,
 e.mark = (rkO n (mkR nw g s2 L2) (TO.mk 1 h sl e)).e.mark,
 e.birth = (rkO n (mkR nw g s2 L2) (TO.mk 1 h sl e)).e.birth,
 e.epoch = (rkO n (mkR nw g s2 L2) (TO.mk 1 h sl e)).e.epoch,
 e.era = (rkO n (mkR nw g s2 L2) (TO.mk 1 h sl e)).e.era,
 false = false,
 teN n (TO.mk 1 h sl e) ≤ l,
 yF (rkE n (fun i => yOf (f i)) (mkR nw g s2 L2) (TO.mk 1 h sl e)) = f ∧ plainSh ySh = true ∨ ∀ (i : Nat), i < teN n (TO.mk 1 h sl e) → rowOb ySh 0 (f i) (yF (rkE n (fun i => yOf (f i)) (mkR nw g s2 L2) (TO.mk 1 h sl e)) i),
 (0 : Nat) = 0,
 nw = (rkS (mkR nw g s2 L2) (TO.mk 1 h sl e)).D.n,
 (none : Option Nat) = none,
 IntKind.i64.wrap (s2 + 1) = (rkS (mkR nw g s2 L2) (TO.mk 1 h sl e)).st,
 (1 : Int) = 1,
 (4 : Int) = 4,
 (0 : Int) = 0,
 (0 : Int) = 0,
 dWord (dOf nw g) 4 0 0 = (rkS (mkR nw g s2 L2) (TO.mk 1 h sl e)).L.w,
 dWord (dOf nw g) 4 0 0 = (rkS (mkR nw g s2 L2) (TO.mk 1 h sl e)).L.i,
 false = (rkS (mkR nw g s2 L2) (TO.mk 1 h sl e)).L.d,
 false = false,
 (rkS (mkR nw g s2 L2) (TO.mk 1 h sl e)).D.n ≤ lw,
 wdF (rkS (mkR nw g s2 L2) (TO.mk 1 h sl e)).D.W = g ∧ plainSh wSh = true ∨ ∀ (i : Nat), i < (rkS (mkR nw g s2 L2) (TO.mk 1 h sl e)).D.n → rowOb wSh 0 (g i) (wdF (rkS (mkR nw g s2 L2) (TO.mk 1 h sl e)).D.W i),
 decide (hSlot (dWord (dOf nw g) 4 0 0) < 0) = true,
 0 ≤ dWord (dOf nw g) 4 0 0,
 dWord (dOf nw g) 4 0 0 < 18446744073709551616,
 nw ≤ lw,
 nw ≤ 1000000,
 0 ≤ h,
 h < 18446744073709551616]) := by kernel_rfl
theorem rk1a_loc (n : Nat) (l : Nat) (f : Nat → Nat → AV) (at_ : Int) (h : Int) (sl : Int) (e : Enty) (nw : Nat) (lw : Nat) (g : Nat → Nat → AV) (s2 : Int) (L2 : LS) : LocOk Tryd.prog 96 [.ptr 1 0 0, .ptr 3 0 0] (rk1aH n l f at_ h sl e nw lw g s2 L2) (rk1aR n l f at_ h sl e nw lw g s2 L2) := by
  refine loc_of_call ERk_ok (fun hp => ?_)
  have hnl : n ≤ l ∧ n ≤ 1000000 := hp _ (List.mem_cons_self ..)
  have hh : R64 h := hp _ (List.mem_cons_of_mem _ (List.mem_cons_self ..))
  have hR : RU nw lw g := hp _ (List.mem_cons_of_mem _ (List.mem_cons_of_mem _ (List.mem_cons_self ..)))
  have hs : hSlot (dWord (dOf nw g) 4 0 0) < 0 := hp _ (List.mem_cons_of_mem _ (List.mem_cons_of_mem _ (List.mem_cons_of_mem _ (List.mem_cons_self ..))))
  clear hp
  have q := rkO_1a (n := n) (R := (mkR nw g s2 L2)) (h := h) (sl := sl) (e := e) hs
  have hRb := hR.b
  have t1 : decide (hSlot (dWord (dOf nw g) 4 0 0) < 0) = true := decide_eq_true hs

  refine ⟨3000, _, _, _, rk1a_1 .., (cj ⟨(by (rw [q]; done)), rfl, rfl, rfl, rfl, (by (rw [q]; rfl)), (by (rw [q]; done)), (by (rw [q]; done)), (by (rw [q]; done)), (by (rw [q]; done)), (by (rw [q]; done)), (by (rw [q]; done)), (by (rw [q]; done)), rfl, hnl.1, .inr (sameY_rows _), rfl, rfl, rfl, rfl, rfl, rfl, rfl, rfl, rfl, rfl, rfl, rfl, hR.a, .inr (sameW_rows _), (by with_reducible assumption), (hR.r _ _ _).1, (hR.r _ _ _).2, hR.a, (by omega), hh.1, hh.2, trivial⟩)⟩
theorem rk1b_1 (n : Nat) (l : Nat) (f : Nat → Nat → AV) (at_ : Int) (h : Int) (sl : Int) (e : Enty) (nw : Nat) (lw : Nat) (g : Nat → Nat → AV) (s2 : Int) (L2 : LS) : callB ERk 3000 96 [AV.ptr 1 0 0, AV.ptr 3 0 0] (rk1bH n l f at_ h sl e nw lw g s2 L2) (rk1bR n l f at_ h sl e nw lw g s2 L2) [(5, Src.nm 2), (6, Src.nm 4)] [Hint.b false] =
 some ([2 = (rkO n (mkR nw g s2 L2) (TO.mk 1 h sl e)).ln,
 (0 : Nat) = 0,
 n = teN n (TO.mk 1 h sl e),
 (none : Option Nat) = none,
 at_ = at_,
 dWord (dOf nw g) 4 0 0 = (rkO n (mkR nw g s2 L2) (TO.mk 1 h sl e)).h,
 sl = (rkO n (mkR nw g s2 L2) (TO.mk 1 h sl e)).sl,
 e.slot = (rkO n (mkR nw g s2 L2) (TO.mk 1 h sl e)).e.slot,
 e.gen = (rkO n (mkR nw g s2 L2) (TO.mk 1 h sl e)).e.gen,
 e.mark = (rkO n (mkR nw g s2 L2) (TO.mk 1 h sl e)).e.mark,
 e.birth = (rkO n (mkR nw g s2 L2) (TO.mk 1 h sl e)).e.birth,
 e.epoch = (rkO n (mkR nw g s2 L2) (TO.mk 1 h sl e)).e.epoch,
 e.era = (rkO n (mkR nw g s2 L2) (TO.mk 1 h sl e)).e.era,
 false = false,
 teN n (TO.mk 1 h sl e) ≤ l,
 yF (rkE n (fun i => yOf (f i)) (mkR nw g s2 L2) (TO.mk 1 h sl e)) = f ∧ plainSh ySh = true ∨ ∀ (i : Nat), i < teN n (TO.mk 1 h sl e) → rowOb ySh 0 (f i) (yF (rkE n (fun i => yOf (f i)) (mkR nw g s2 L2) (TO.mk 1 h sl e)) i),
 (0 : Nat) = 0,
 nw = (rkS (mkR nw g s2 L2) (TO.mk 1 h sl e)).D.n,
 (none : Option Nat) = none,
 IntKind.i64.wrap (s2 + 1) = (rkS (mkR nw g s2 L2) (TO.mk 1 h sl e)).st,
 (1 : Int) = 1,
 (4 : Int) = 4,
 (0 : Int) = 0,
 (0 : Int) = 0,
 dWord (dOf nw g) 4 0 0 = (rkS (mkR nw g s2 L2) (TO.mk 1 h sl e)).L.w,
 dWord (dOf nw g) 4 0 0 = (rkS (mkR nw g s2 L2) (TO.mk 1 h sl e)).L.i,
 false = (rkS (mkR nw g s2 L2) (TO.mk 1 h sl e)).L.d,
 false = false,
 (rkS (mkR nw g s2 L2) (TO.mk 1 h sl e)).D.n ≤ lw,
 wdF (rkS (mkR nw g s2 L2) (TO.mk 1 h sl e)).D.W = g ∧ plainSh wSh = true ∨ ∀ (i : Nat), i < (rkS (mkR nw g s2 L2) (TO.mk 1 h sl e)).D.n → rowOb wSh 0 (g i) (wdF (rkS (mkR nw g s2 L2) (TO.mk 1 h sl e)).D.W i),
 decide (hSlot (dWord (dOf nw g) 4 0 0) < 0) = false,
 0 ≤ dWord (dOf nw g) 4 0 0,
 dWord (dOf nw g) 4 0 0 < 18446744073709551616,
 nw ≤ lw,
 nw ≤ 1000000,
 0 ≤ h,
 h < 18446744073709551616]) := by kernel_rfl
theorem rk1b_loc (n : Nat) (l : Nat) (f : Nat → Nat → AV) (at_ : Int) (h : Int) (sl : Int) (e : Enty) (nw : Nat) (lw : Nat) (g : Nat → Nat → AV) (s2 : Int) (L2 : LS) : LocOk Tryd.prog 96 [.ptr 1 0 0, .ptr 3 0 0] (rk1bH n l f at_ h sl e nw lw g s2 L2) (rk1bR n l f at_ h sl e nw lw g s2 L2) := by
  refine loc_of_call ERk_ok (fun hp => ?_)
  have hnl : n ≤ l ∧ n ≤ 1000000 := hp _ (List.mem_cons_self ..)
  have hh : R64 h := hp _ (List.mem_cons_of_mem _ (List.mem_cons_self ..))
  have hR : RU nw lw g := hp _ (List.mem_cons_of_mem _ (List.mem_cons_of_mem _ (List.mem_cons_self ..)))
  have hs : ¬ hSlot (dWord (dOf nw g) 4 0 0) < 0 := hp _ (List.mem_cons_of_mem _ (List.mem_cons_of_mem _ (List.mem_cons_of_mem _ (List.mem_cons_self ..))))
  clear hp
  have q := rkO_1b (n := n) (R := (mkR nw g s2 L2)) (h := h) (sl := sl) (e := e) hs
  have hRb := hR.b
  have t1 : decide (hSlot (dWord (dOf nw g) 4 0 0) < 0) = false := decide_eq_false hs

  refine ⟨3000, _, _, _, rk1b_1 .., (cj ⟨(by (rw [q]; done)), rfl, rfl, rfl, rfl, (by (rw [q]; rfl)), (by (rw [q]; done)), (by (rw [q]; done)), (by (rw [q]; done)), (by (rw [q]; done)), (by (rw [q]; done)), (by (rw [q]; done)), (by (rw [q]; done)), rfl, hnl.1, .inr (sameY_rows _), rfl, rfl, rfl, rfl, rfl, rfl, rfl, rfl, rfl, rfl, rfl, rfl, hR.a, .inr (sameW_rows _), (by with_reducible assumption), (hR.r _ _ _).1, (hR.r _ _ _).2, hR.a, (by omega), hh.1, hh.2, trivial⟩)⟩
theorem rk2a_1 (n : Nat) (l : Nat) (f : Nat → Nat → AV) (at_ : Int) (h : Int) (sl : Int) (e : Enty) (nw : Nat) (lw : Nat) (g : Nat → Nat → AV) (s2 : Int) (L2 : LS) : callB ERk 3000 96 [AV.ptr 1 0 0, AV.ptr 3 0 0] (rk2aH n l f at_ h sl e nw lw g s2 L2) (rk2aR n l f at_ h sl e nw lw g s2 L2) [(5, Src.nm 2), (6, Src.nm 1841282216941579801882419204465524523121861150899223944084351394554075260477629437121839426933321088397373759821752539942684706807060533592497296769021)] [Hint.b true] =
 some ([3 = (rkO n (mkR nw g s2 L2) (TO.mk 2 h sl e)).ln,
 (0 : Nat) = 0,
 n = teN n (TO.mk 2 h sl e),
 (none : Option Nat) = none,
 at_ = at_,
 h = (rkO n (mkR nw g s2 L2) (TO.mk 2 h sl e)).h,
 hSlot h = (rkO n (mkR nw g s2 L2) (TO.mk 2 h sl e)).sl,
 e.slot = (rkO n (mkR nw g s2 L2) (TO.mk 2 h sl e)).e.slot,
 e.gen = (rkO n (mkR nw g s2 L2) (TO.mk 2 h sl e)).e.gen,
 e.mark = (rkO n (mkR nw g s2 L2) (TO.mk 2 h sl e)).e.mark,
 e.birth = (rkO n (mkR nw g s2 L2) (TO.mk 2 h sl e)).e.birth,
 e.epoch = (rkO n (mkR nw g s2 L2) (TO.mk 2 h sl e)).e.epoch,
 e.era = (rkO n (mkR nw g s2 L2) (TO.mk 2 h sl e)).e.era,
 false = false,
 teN n (TO.mk 2 h sl e) ≤ l,
 yF (rkE n (fun i => yOf (f i)) (mkR nw g s2 L2) (TO.mk 2 h sl e)) = f ∧ plainSh ySh = true ∨ ∀ (i : Nat), i < teN n (TO.mk 2 h sl e) → rowOb ySh 0 (f i) (yF (rkE n (fun i => yOf (f i)) (mkR nw g s2 L2) (TO.mk 2 h sl e)) i),
 (0 : Nat) = 0,
 (dCasM (dOf nw g) 4 0 0 h (hHead (-1) (IntKind.u64.wrap (hTag h + 1)))).n = (rkS (mkR nw g s2 L2) (TO.mk 2 h sl e)).D.n,
 (none : Option Nat) = none,
 IntKind.i64.wrap (s2 + 1) = (rkS (mkR nw g s2 L2) (TO.mk 2 h sl e)).st,
 (3 : Int) = 3,
 (4 : Int) = 4,
 (0 : Int) = 0,
 (0 : Int) = 0,
 dWord (dOf nw g) 4 0 0 = (rkS (mkR nw g s2 L2) (TO.mk 2 h sl e)).L.w,
 dWord (dCasM (dOf nw g) 4 0 0 h (hHead (-1) (IntKind.u64.wrap (hTag h + 1)))) 4 0 0 = (rkS (mkR nw g s2 L2) (TO.mk 2 h sl e)).L.i,
 dCasD (dOf nw g) 4 0 0 h = (rkS (mkR nw g s2 L2) (TO.mk 2 h sl e)).L.d,
 false = false,
 (rkS (mkR nw g s2 L2) (TO.mk 2 h sl e)).D.n ≤ (dCasM (dOf nw g) 4 0 0 h (hHead (-1) (IntKind.u64.wrap (hTag h + 1)))).n,
 wdF (rkS (mkR nw g s2 L2) (TO.mk 2 h sl e)).D.W = wdF (dCasM (dOf nw g) 4 0 0 h (hHead (-1) (IntKind.u64.wrap (hTag h + 1)))).W ∧ plainSh wSh = true ∨ ∀ (i : Nat), i < (rkS (mkR nw g s2 L2) (TO.mk 2 h sl e)).D.n → rowOb wSh 0 (wdF (dCasM (dOf nw g) 4 0 0 h (hHead (-1) (IntKind.u64.wrap (hTag h + 1)))).W i) (wdF (rkS (mkR nw g s2 L2) (TO.mk 2 h sl e)).D.W i),
 dCasD (dOf nw g) 4 0 0 h = true,
 nw ≤ lw,
 nw ≤ 100000,
 (0 : Int) ≤ (4 : Int),
 0 ≤ IntKind.u64.wrap (hTag h + 1),
 IntKind.u64.wrap (hTag h + 1) < 18446744073709551616,
 0 ≤ h,
 h < 18446744073709551616]) := by kernel_rfl
theorem rk2a_loc (n : Nat) (l : Nat) (f : Nat → Nat → AV) (at_ : Int) (h : Int) (sl : Int) (e : Enty) (nw : Nat) (lw : Nat) (g : Nat → Nat → AV) (s2 : Int) (L2 : LS) : LocOk Tryd.prog 96 [.ptr 1 0 0, .ptr 3 0 0] (rk2aH n l f at_ h sl e nw lw g s2 L2) (rk2aR n l f at_ h sl e nw lw g s2 L2) := by
  refine loc_of_call ERk_ok (fun hp => ?_)
  have hnl : n ≤ l ∧ n ≤ 1000000 := hp _ (List.mem_cons_self ..)
  have hh : R64 h := hp _ (List.mem_cons_of_mem _ (List.mem_cons_self ..))
  have hR : RU nw lw g := hp _ (List.mem_cons_of_mem _ (List.mem_cons_of_mem _ (List.mem_cons_self ..)))
  have hs : dCasD (dOf nw g) 4 0 0 h = true := hp _ (List.mem_cons_of_mem _ (List.mem_cons_of_mem _ (List.mem_cons_of_mem _ (List.mem_cons_self ..))))
  clear hp
  have q := rkO_2a (n := n) (R := (mkR nw g s2 L2)) (sl := sl) (e := e) hs
  have hRb := hR.b

  refine ⟨3000, _, _, _, rk2a_1 .., (cj ⟨(by (rw [q]; done)), rfl, rfl, rfl, rfl, (by (rw [q]; done)), (by (rw [q]; done)), (by (rw [q]; done)), (by (rw [q]; done)), (by (rw [q]; done)), (by (rw [q]; done)), (by (rw [q]; done)), (by (rw [q]; done)), rfl, hnl.1, .inr (sameY_rows _), rfl, rfl, rfl, rfl, rfl, rfl, rfl, rfl, rfl, rfl, rfl, rfl, Nat.le_refl _, .inl ⟨rfl, rfl⟩, (by with_reducible assumption), hR.a, (by with_reducible assumption), (by decide), (w64_r _).1, (w64_r _).2, hh.1, hh.2, trivial⟩)⟩
theorem rk2b_1 (n : Nat) (l : Nat) (f : Nat → Nat → AV) (at_ : Int) (h : Int) (sl : Int) (e : Enty) (nw : Nat) (lw : Nat) (g : Nat → Nat → AV) (s2 : Int) (L2 : LS) : callB ERk 3000 96 [AV.ptr 1 0 0, AV.ptr 3 0 0] (rk2bH n l f at_ h sl e nw lw g s2 L2) (rk2bR n l f at_ h sl e nw lw g s2 L2) [(5, Src.nm 2), (6, Src.nm 1841282216941579801882419204465524523121861150899223944084351394554075260477629437121839426933321088397373759821752539942684706807060533592497296769021)] [Hint.b false] =
 some ([1 = (rkO n (mkR nw g s2 L2) (TO.mk 2 h sl e)).ln,
 (0 : Nat) = 0,
 n = teN n (TO.mk 2 h sl e),
 (none : Option Nat) = none,
 at_ = at_,
 h = (rkO n (mkR nw g s2 L2) (TO.mk 2 h sl e)).h,
 sl = (rkO n (mkR nw g s2 L2) (TO.mk 2 h sl e)).sl,
 e.slot = (rkO n (mkR nw g s2 L2) (TO.mk 2 h sl e)).e.slot,
 e.gen = (rkO n (mkR nw g s2 L2) (TO.mk 2 h sl e)).e.gen,
 e.mark = (rkO n (mkR nw g s2 L2) (TO.mk 2 h sl e)).e.mark,
 e.birth = (rkO n (mkR nw g s2 L2) (TO.mk 2 h sl e)).e.birth,
 e.epoch = (rkO n (mkR nw g s2 L2) (TO.mk 2 h sl e)).e.epoch,
 e.era = (rkO n (mkR nw g s2 L2) (TO.mk 2 h sl e)).e.era,
 false = false,
 teN n (TO.mk 2 h sl e) ≤ l,
 yF (rkE n (fun i => yOf (f i)) (mkR nw g s2 L2) (TO.mk 2 h sl e)) = f ∧ plainSh ySh = true ∨ ∀ (i : Nat), i < teN n (TO.mk 2 h sl e) → rowOb ySh 0 (f i) (yF (rkE n (fun i => yOf (f i)) (mkR nw g s2 L2) (TO.mk 2 h sl e)) i),
 (0 : Nat) = 0,
 (dCasM (dOf nw g) 4 0 0 h (hHead (-1) (IntKind.u64.wrap (hTag h + 1)))).n = (rkS (mkR nw g s2 L2) (TO.mk 2 h sl e)).D.n,
 (none : Option Nat) = none,
 IntKind.i64.wrap (s2 + 1) = (rkS (mkR nw g s2 L2) (TO.mk 2 h sl e)).st,
 (3 : Int) = 3,
 (4 : Int) = 4,
 (0 : Int) = 0,
 (0 : Int) = 0,
 dWord (dOf nw g) 4 0 0 = (rkS (mkR nw g s2 L2) (TO.mk 2 h sl e)).L.w,
 dWord (dCasM (dOf nw g) 4 0 0 h (hHead (-1) (IntKind.u64.wrap (hTag h + 1)))) 4 0 0 = (rkS (mkR nw g s2 L2) (TO.mk 2 h sl e)).L.i,
 dCasD (dOf nw g) 4 0 0 h = (rkS (mkR nw g s2 L2) (TO.mk 2 h sl e)).L.d,
 false = false,
 (rkS (mkR nw g s2 L2) (TO.mk 2 h sl e)).D.n ≤ (dCasM (dOf nw g) 4 0 0 h (hHead (-1) (IntKind.u64.wrap (hTag h + 1)))).n,
 wdF (rkS (mkR nw g s2 L2) (TO.mk 2 h sl e)).D.W = wdF (dCasM (dOf nw g) 4 0 0 h (hHead (-1) (IntKind.u64.wrap (hTag h + 1)))).W ∧ plainSh wSh = true ∨ ∀ (i : Nat), i < (rkS (mkR nw g s2 L2) (TO.mk 2 h sl e)).D.n → rowOb wSh 0 (wdF (dCasM (dOf nw g) 4 0 0 h (hHead (-1) (IntKind.u64.wrap (hTag h + 1)))).W i) (wdF (rkS (mkR nw g s2 L2) (TO.mk 2 h sl e)).D.W i),
 dCasD (dOf nw g) 4 0 0 h = false,
 nw ≤ lw,
 nw ≤ 100000,
 (0 : Int) ≤ (4 : Int),
 0 ≤ IntKind.u64.wrap (hTag h + 1),
 IntKind.u64.wrap (hTag h + 1) < 18446744073709551616,
 0 ≤ h,
 h < 18446744073709551616]) := by kernel_rfl
theorem rk2b_loc (n : Nat) (l : Nat) (f : Nat → Nat → AV) (at_ : Int) (h : Int) (sl : Int) (e : Enty) (nw : Nat) (lw : Nat) (g : Nat → Nat → AV) (s2 : Int) (L2 : LS) : LocOk Tryd.prog 96 [.ptr 1 0 0, .ptr 3 0 0] (rk2bH n l f at_ h sl e nw lw g s2 L2) (rk2bR n l f at_ h sl e nw lw g s2 L2) := by
  refine loc_of_call ERk_ok (fun hp => ?_)
  have hnl : n ≤ l ∧ n ≤ 1000000 := hp _ (List.mem_cons_self ..)
  have hh : R64 h := hp _ (List.mem_cons_of_mem _ (List.mem_cons_self ..))
  have hR : RU nw lw g := hp _ (List.mem_cons_of_mem _ (List.mem_cons_of_mem _ (List.mem_cons_self ..)))
  have hs : ¬ dCasD (dOf nw g) 4 0 0 h = true := hp _ (List.mem_cons_of_mem _ (List.mem_cons_of_mem _ (List.mem_cons_of_mem _ (List.mem_cons_self ..))))
  clear hp
  have q := rkO_2b (n := n) (R := (mkR nw g s2 L2)) (sl := sl) (e := e) hs
  have hsF : dCasD (dOf nw g) 4 0 0 h = false := by simpa using hs
  have hRb := hR.b

  refine ⟨3000, _, _, _, rk2b_1 .., (cj ⟨(by (rw [q]; done)), rfl, rfl, rfl, rfl, (by (rw [q]; done)), (by (rw [q]; done)), (by (rw [q]; done)), (by (rw [q]; done)), (by (rw [q]; done)), (by (rw [q]; done)), (by (rw [q]; done)), (by (rw [q]; done)), rfl, hnl.1, .inr (sameY_rows _), rfl, rfl, rfl, rfl, rfl, rfl, rfl, rfl, rfl, rfl, rfl, rfl, Nat.le_refl _, .inl ⟨rfl, rfl⟩, (by with_reducible assumption), hR.a, (by with_reducible assumption), (by decide), (w64_r _).1, (w64_r _).2, hh.1, hh.2, trivial⟩)⟩
theorem rk3_1 (n : Nat) (l : Nat) (f : Nat → Nat → AV) (at_ : Int) (h : Int) (sl : Int) (e : Enty) (nw : Nat) (lw : Nat) (g : Nat → Nat → AV) (s2 : Int) (L2 : LS) : callB ERk 3000 96 [AV.ptr 1 0 0, AV.ptr 3 0 0] (rk3H n l f at_ h sl e nw lw g s2 L2) (rk3R n l f at_ h sl e nw lw g s2 L2) [(5, Src.nm 2), (6, Src.nm 4)] [] =
 some ([(4 : Int) = 4,
 (0 : Nat) = 0,
 n = teN n (TO.mk 3 h sl e),
 (none : Option Nat) = none,
 at_ = at_,
 h = (rkO n (mkR nw g s2 L2) (TO.mk 3 h sl e)).h,
 sl = (rkO n (mkR nw g s2 L2) (TO.mk 3 h sl e)).sl,
 sl = (rkO n (mkR nw g s2 L2) (TO.mk 3 h sl e)).e.slot,
 hdrG (dWord (dOf nw g) 9 sl 0) = (rkO n (mkR nw g s2 L2) (TO.mk 3 h sl e)).e.gen,
 false = (rkO n (mkR nw g s2 L2) (TO.mk 3 h sl e)).e.mark,
 (0 : Int) = 0,
 (0 : Int) = 0,
 (0 : Int) = 0,
 false = false,
 teN n (TO.mk 3 h sl e) ≤ l,
 yF (rkE n (fun i => yOf (f i)) (mkR nw g s2 L2) (TO.mk 3 h sl e)) = f ∧ plainSh ySh = true ∨ ∀ (i : Nat), i < teN n (TO.mk 3 h sl e) → rowOb ySh 0 (f i) (yF (rkE n (fun i => yOf (f i)) (mkR nw g s2 L2) (TO.mk 3 h sl e)) i),
 (0 : Nat) = 0,
 nw = (rkS (mkR nw g s2 L2) (TO.mk 3 h sl e)).D.n,
 (none : Option Nat) = none,
 IntKind.i64.wrap (s2 + 1) = (rkS (mkR nw g s2 L2) (TO.mk 3 h sl e)).st,
 (1 : Int) = 1,
 (9 : Int) = 9,
 sl = (rkS (mkR nw g s2 L2) (TO.mk 3 h sl e)).L.a,
 (0 : Int) = 0,
 dWord (dOf nw g) 9 sl 0 = (rkS (mkR nw g s2 L2) (TO.mk 3 h sl e)).L.w,
 dWord (dOf nw g) 9 sl 0 = (rkS (mkR nw g s2 L2) (TO.mk 3 h sl e)).L.i,
 false = (rkS (mkR nw g s2 L2) (TO.mk 3 h sl e)).L.d,
 false = false,
 (rkS (mkR nw g s2 L2) (TO.mk 3 h sl e)).D.n ≤ lw,
 wdF (rkS (mkR nw g s2 L2) (TO.mk 3 h sl e)).D.W = g ∧ plainSh wSh = true ∨ ∀ (i : Nat), i < (rkS (mkR nw g s2 L2) (TO.mk 3 h sl e)).D.n → rowOb wSh 0 (g i) (wdF (rkS (mkR nw g s2 L2) (TO.mk 3 h sl e)).D.W i),
 0 ≤ dWord (dOf nw g) 9 sl 0,
 dWord (dOf nw g) 9 sl 0 < 18446744073709551616,
 nw ≤ lw,
 nw ≤ 1000000,
 0 ≤ h,
 h < 18446744073709551616]) := by kernel_rfl
theorem rk3_loc (n : Nat) (l : Nat) (f : Nat → Nat → AV) (at_ : Int) (h : Int) (sl : Int) (e : Enty) (nw : Nat) (lw : Nat) (g : Nat → Nat → AV) (s2 : Int) (L2 : LS) : LocOk Tryd.prog 96 [.ptr 1 0 0, .ptr 3 0 0] (rk3H n l f at_ h sl e nw lw g s2 L2) (rk3R n l f at_ h sl e nw lw g s2 L2) := by
  refine loc_of_call ERk_ok (fun hp => ?_)
  have hnl : n ≤ l ∧ n ≤ 1000000 := hp _ (List.mem_cons_self ..)
  have hh : R64 h := hp _ (List.mem_cons_of_mem _ (List.mem_cons_self ..))
  have hR : RU nw lw g := hp _ (List.mem_cons_of_mem _ (List.mem_cons_of_mem _ (List.mem_cons_self ..)))
  clear hp
  have hRb := hR.b

  refine ⟨3000, _, _, _, rk3_1 .., (cj ⟨rfl, rfl, rfl, rfl, rfl, rfl, rfl, rfl, rfl, rfl, rfl, rfl, rfl, rfl, hnl.1, .inr (sameY_rows _), rfl, rfl, rfl, rfl, rfl, rfl, rfl, rfl, rfl, rfl, rfl, rfl, hR.a, .inr (sameW_rows _), (hR.r _ _ _).1, (hR.r _ _ _).2, hR.a, (by omega), hh.1, hh.2, trivial⟩)⟩
theorem rk4_1 (n : Nat) (l : Nat) (f : Nat → Nat → AV) (at_ : Int) (h : Int) (sl : Int) (e : Enty) (nw : Nat) (lw : Nat) (g : Nat → Nat → AV) (s2 : Int) (L2 : LS) : callB ERk 3000 96 [AV.ptr 1 0 0, AV.ptr 3 0 0] (rk4H n l f at_ h sl e nw lw g s2 L2) (rk4R n l f at_ h sl e nw lw g s2 L2) [(5, Src.nm 2), (6, Src.nm 4)] [] =
 some ([(5 : Int) = 5,
 (0 : Nat) = 0,
 n = teN n (TO.mk 4 h sl e),
 (none : Option Nat) = none,
 at_ = at_,
 h = (rkO n (mkR nw g s2 L2) (TO.mk 4 h sl e)).h,
 sl = (rkO n (mkR nw g s2 L2) (TO.mk 4 h sl e)).sl,
 e.slot = (rkO n (mkR nw g s2 L2) (TO.mk 4 h sl e)).e.slot,
 e.gen = (rkO n (mkR nw g s2 L2) (TO.mk 4 h sl e)).e.gen,
 e.mark = (rkO n (mkR nw g s2 L2) (TO.mk 4 h sl e)).e.mark,
 dWord (dOf nw g) 9 sl 1 = (rkO n (mkR nw g s2 L2) (TO.mk 4 h sl e)).e.birth,
 e.epoch = (rkO n (mkR nw g s2 L2) (TO.mk 4 h sl e)).e.epoch,
 e.era = (rkO n (mkR nw g s2 L2) (TO.mk 4 h sl e)).e.era,
 false = false,
 teN n (TO.mk 4 h sl e) ≤ l,
 yF (rkE n (fun i => yOf (f i)) (mkR nw g s2 L2) (TO.mk 4 h sl e)) = f ∧ plainSh ySh = true ∨ ∀ (i : Nat), i < teN n (TO.mk 4 h sl e) → rowOb ySh 0 (f i) (yF (rkE n (fun i => yOf (f i)) (mkR nw g s2 L2) (TO.mk 4 h sl e)) i),
 (0 : Nat) = 0,
 nw = (rkS (mkR nw g s2 L2) (TO.mk 4 h sl e)).D.n,
 (none : Option Nat) = none,
 IntKind.i64.wrap (s2 + 1) = (rkS (mkR nw g s2 L2) (TO.mk 4 h sl e)).st,
 (1 : Int) = 1,
 (9 : Int) = 9,
 sl = (rkS (mkR nw g s2 L2) (TO.mk 4 h sl e)).L.a,
 (1 : Int) = 1,
 dWord (dOf nw g) 9 sl 1 = (rkS (mkR nw g s2 L2) (TO.mk 4 h sl e)).L.w,
 dWord (dOf nw g) 9 sl 1 = (rkS (mkR nw g s2 L2) (TO.mk 4 h sl e)).L.i,
 false = (rkS (mkR nw g s2 L2) (TO.mk 4 h sl e)).L.d,
 false = false,
 (rkS (mkR nw g s2 L2) (TO.mk 4 h sl e)).D.n ≤ lw,
 wdF (rkS (mkR nw g s2 L2) (TO.mk 4 h sl e)).D.W = g ∧ plainSh wSh = true ∨ ∀ (i : Nat), i < (rkS (mkR nw g s2 L2) (TO.mk 4 h sl e)).D.n → rowOb wSh 0 (g i) (wdF (rkS (mkR nw g s2 L2) (TO.mk 4 h sl e)).D.W i),
 nw ≤ lw,
 nw ≤ 1000000,
 0 ≤ h,
 h < 18446744073709551616]) := by kernel_rfl
theorem rk4_loc (n : Nat) (l : Nat) (f : Nat → Nat → AV) (at_ : Int) (h : Int) (sl : Int) (e : Enty) (nw : Nat) (lw : Nat) (g : Nat → Nat → AV) (s2 : Int) (L2 : LS) : LocOk Tryd.prog 96 [.ptr 1 0 0, .ptr 3 0 0] (rk4H n l f at_ h sl e nw lw g s2 L2) (rk4R n l f at_ h sl e nw lw g s2 L2) := by
  refine loc_of_call ERk_ok (fun hp => ?_)
  have hnl : n ≤ l ∧ n ≤ 1000000 := hp _ (List.mem_cons_self ..)
  have hh : R64 h := hp _ (List.mem_cons_of_mem _ (List.mem_cons_self ..))
  have hR : RU nw lw g := hp _ (List.mem_cons_of_mem _ (List.mem_cons_of_mem _ (List.mem_cons_self ..)))
  clear hp
  have hRb := hR.b

  refine ⟨3000, _, _, _, rk4_1 .., (cj ⟨rfl, rfl, rfl, rfl, rfl, rfl, rfl, rfl, rfl, rfl, rfl, rfl, rfl, rfl, hnl.1, .inr (sameY_rows _), rfl, rfl, rfl, rfl, rfl, rfl, rfl, rfl, rfl, rfl, rfl, rfl, hR.a, .inr (sameW_rows _), hR.a, (by omega), hh.1, hh.2, trivial⟩)⟩
theorem rk5_1 (n : Nat) (l : Nat) (f : Nat → Nat → AV) (at_ : Int) (h : Int) (sl : Int) (e : Enty) (nw : Nat) (lw : Nat) (g : Nat → Nat → AV) (s2 : Int) (L2 : LS) : callB ERk 3000 96 [AV.ptr 1 0 0, AV.ptr 3 0 0] (rk5H n l f at_ h sl e nw lw g s2 L2) (rk5R n l f at_ h sl e nw lw g s2 L2) [(5, Src.nm 2), (6, Src.nm 4)] [] =
 some ([(6 : Int) = 6,
 (0 : Nat) = 0,
 n = teN n (TO.mk 5 h sl e),
 (none : Option Nat) = none,
 at_ = at_,
 h = (rkO n (mkR nw g s2 L2) (TO.mk 5 h sl e)).h,
 sl = (rkO n (mkR nw g s2 L2) (TO.mk 5 h sl e)).sl,
 e.slot = (rkO n (mkR nw g s2 L2) (TO.mk 5 h sl e)).e.slot,
 e.gen = (rkO n (mkR nw g s2 L2) (TO.mk 5 h sl e)).e.gen,
 e.mark = (rkO n (mkR nw g s2 L2) (TO.mk 5 h sl e)).e.mark,
 e.birth = (rkO n (mkR nw g s2 L2) (TO.mk 5 h sl e)).e.birth,
 dWord (dOf nw g) 9 sl 3 = (rkO n (mkR nw g s2 L2) (TO.mk 5 h sl e)).e.epoch,
 e.era = (rkO n (mkR nw g s2 L2) (TO.mk 5 h sl e)).e.era,
 false = false,
 teN n (TO.mk 5 h sl e) ≤ l,
 yF (rkE n (fun i => yOf (f i)) (mkR nw g s2 L2) (TO.mk 5 h sl e)) = f ∧ plainSh ySh = true ∨ ∀ (i : Nat), i < teN n (TO.mk 5 h sl e) → rowOb ySh 0 (f i) (yF (rkE n (fun i => yOf (f i)) (mkR nw g s2 L2) (TO.mk 5 h sl e)) i),
 (0 : Nat) = 0,
 nw = (rkS (mkR nw g s2 L2) (TO.mk 5 h sl e)).D.n,
 (none : Option Nat) = none,
 IntKind.i64.wrap (s2 + 1) = (rkS (mkR nw g s2 L2) (TO.mk 5 h sl e)).st,
 (1 : Int) = 1,
 (9 : Int) = 9,
 sl = (rkS (mkR nw g s2 L2) (TO.mk 5 h sl e)).L.a,
 (3 : Int) = 3,
 dWord (dOf nw g) 9 sl 3 = (rkS (mkR nw g s2 L2) (TO.mk 5 h sl e)).L.w,
 dWord (dOf nw g) 9 sl 3 = (rkS (mkR nw g s2 L2) (TO.mk 5 h sl e)).L.i,
 false = (rkS (mkR nw g s2 L2) (TO.mk 5 h sl e)).L.d,
 false = false,
 (rkS (mkR nw g s2 L2) (TO.mk 5 h sl e)).D.n ≤ lw,
 wdF (rkS (mkR nw g s2 L2) (TO.mk 5 h sl e)).D.W = g ∧ plainSh wSh = true ∨ ∀ (i : Nat), i < (rkS (mkR nw g s2 L2) (TO.mk 5 h sl e)).D.n → rowOb wSh 0 (g i) (wdF (rkS (mkR nw g s2 L2) (TO.mk 5 h sl e)).D.W i),
 nw ≤ lw,
 nw ≤ 1000000,
 0 ≤ h,
 h < 18446744073709551616]) := by kernel_rfl
theorem rk5_loc (n : Nat) (l : Nat) (f : Nat → Nat → AV) (at_ : Int) (h : Int) (sl : Int) (e : Enty) (nw : Nat) (lw : Nat) (g : Nat → Nat → AV) (s2 : Int) (L2 : LS) : LocOk Tryd.prog 96 [.ptr 1 0 0, .ptr 3 0 0] (rk5H n l f at_ h sl e nw lw g s2 L2) (rk5R n l f at_ h sl e nw lw g s2 L2) := by
  refine loc_of_call ERk_ok (fun hp => ?_)
  have hnl : n ≤ l ∧ n ≤ 1000000 := hp _ (List.mem_cons_self ..)
  have hh : R64 h := hp _ (List.mem_cons_of_mem _ (List.mem_cons_self ..))
  have hR : RU nw lw g := hp _ (List.mem_cons_of_mem _ (List.mem_cons_of_mem _ (List.mem_cons_self ..)))
  clear hp
  have hRb := hR.b

  refine ⟨3000, _, _, _, rk5_1 .., (cj ⟨rfl, rfl, rfl, rfl, rfl, rfl, rfl, rfl, rfl, rfl, rfl, rfl, rfl, rfl, hnl.1, .inr (sameY_rows _), rfl, rfl, rfl, rfl, rfl, rfl, rfl, rfl, rfl, rfl, rfl, rfl, hR.a, .inr (sameW_rows _), hR.a, (by omega), hh.1, hh.2, trivial⟩)⟩
theorem rk6_1 (n : Nat) (l : Nat) (f : Nat → Nat → AV) (at_ : Int) (h : Int) (sl : Int) (e : Enty) (nw : Nat) (lw : Nat) (g : Nat → Nat → AV) (s2 : Int) (L2 : LS) : callB ERk 3000 96 [AV.ptr 1 0 0, AV.ptr 3 0 0] (rk6H n l f at_ h sl e nw lw g s2 L2) (rk6R n l f at_ h sl e nw lw g s2 L2) [(5, Src.nm 2045869129935088668758243560517249470135401278776915493427057105060083622752921596802043807703690098219304177579725044380760785341178370658330329743356), (6, Src.nm 4)] [] =
 some ([(7 : Int) = 7,
 (0 : Nat) = 0,
 n + 1 = teN n (TO.mk 6 h sl e),
 (none : Option Nat) = none,
 at_ = at_,
 h = (rkO n (mkR nw g s2 L2) (TO.mk 6 h sl e)).h,
 sl = (rkO n (mkR nw g s2 L2) (TO.mk 6 h sl e)).sl,
 e.slot = (rkO n (mkR nw g s2 L2) (TO.mk 6 h sl e)).e.slot,
 e.gen = (rkO n (mkR nw g s2 L2) (TO.mk 6 h sl e)).e.gen,
 e.mark = (rkO n (mkR nw g s2 L2) (TO.mk 6 h sl e)).e.mark,
 e.birth = (rkO n (mkR nw g s2 L2) (TO.mk 6 h sl e)).e.birth,
 e.epoch = (rkO n (mkR nw g s2 L2) (TO.mk 6 h sl e)).e.epoch,
 dWord (dOf nw g) 9 sl 4 = (rkO n (mkR nw g s2 L2) (TO.mk 6 h sl e)).e.era,
 false = false,
 teN n (TO.mk 6 h sl e) ≤ n + 1,
 (yF (rkE n (fun i => yOf (f i)) (mkR nw g s2 L2) (TO.mk 6 h sl e)) = fun i j => if i < n then f (0 + i) j else rowsOf 6 [AV.sym IntKind.i64 e.slot, AV.sym IntKind.u32 e.gen, AV.symb e.mark, AV.sym IntKind.u64 e.birth, AV.sym IntKind.u64 e.epoch, oneOrAll [AV.sym IntKind.u64 (dWord (dOf nw g) 9 sl 4)]] (i - n) j) ∧ plainSh ySh = true ∨ ∀ (i : Nat), i < teN n (TO.mk 6 h sl e) → rowOb ySh 0 (fun j => if i < n then f (0 + i) j else rowsOf 6 [AV.sym IntKind.i64 e.slot, AV.sym IntKind.u32 e.gen, AV.symb e.mark, AV.sym IntKind.u64 e.birth, AV.sym IntKind.u64 e.epoch, oneOrAll [AV.sym IntKind.u64 (dWord (dOf nw g) 9 sl 4)]] (i - n) j) (yF (rkE n (fun i => yOf (f i)) (mkR nw g s2 L2) (TO.mk 6 h sl e)) i),
 (0 : Nat) = 0,
 nw = (rkS (mkR nw g s2 L2) (TO.mk 6 h sl e)).D.n,
 (none : Option Nat) = none,
 IntKind.i64.wrap (s2 + 1) = (rkS (mkR nw g s2 L2) (TO.mk 6 h sl e)).st,
 (1 : Int) = 1,
 (9 : Int) = 9,
 sl = (rkS (mkR nw g s2 L2) (TO.mk 6 h sl e)).L.a,
 (4 : Int) = 4,
 dWord (dOf nw g) 9 sl 4 = (rkS (mkR nw g s2 L2) (TO.mk 6 h sl e)).L.w,
 dWord (dOf nw g) 9 sl 4 = (rkS (mkR nw g s2 L2) (TO.mk 6 h sl e)).L.i,
 false = (rkS (mkR nw g s2 L2) (TO.mk 6 h sl e)).L.d,
 false = false,
 (rkS (mkR nw g s2 L2) (TO.mk 6 h sl e)).D.n ≤ lw,
 wdF (rkS (mkR nw g s2 L2) (TO.mk 6 h sl e)).D.W = g ∧ plainSh wSh = true ∨ ∀ (i : Nat), i < (rkS (mkR nw g s2 L2) (TO.mk 6 h sl e)).D.n → rowOb wSh 0 (g i) (wdF (rkS (mkR nw g s2 L2) (TO.mk 6 h sl e)).D.W i),
 ((n + 1) * 40).ble 70368744177664 = true,
 (0 + n).ble l = true,
 nw ≤ lw,
 nw ≤ 1000000,
 0 ≤ h,
 h < 18446744073709551616]) := by kernel_rfl
theorem rk6_loc (n : Nat) (l : Nat) (f : Nat → Nat → AV) (at_ : Int) (h : Int) (sl : Int) (e : Enty) (nw : Nat) (lw : Nat) (g : Nat → Nat → AV) (s2 : Int) (L2 : LS) : LocOk Tryd.prog 96 [.ptr 1 0 0, .ptr 3 0 0] (rk6H n l f at_ h sl e nw lw g s2 L2) (rk6R n l f at_ h sl e nw lw g s2 L2) := by
  refine loc_of_call ERk_ok (fun hp => ?_)
  have hnl : n ≤ l ∧ n ≤ 1000000 := hp _ (List.mem_cons_self ..)
  have hh : R64 h := hp _ (List.mem_cons_of_mem _ (List.mem_cons_self ..))
  have hR : RU nw lw g := hp _ (List.mem_cons_of_mem _ (List.mem_cons_of_mem _ (List.mem_cons_self ..)))
  clear hp
  have hRb := hR.b

  refine ⟨3000, _, _, _, rk6_1 .., (cj ⟨rfl, rfl, rfl, rfl, rfl, rfl, rfl, rfl, rfl, rfl, rfl, rfl, rfl, rfl, Nat.le_refl _, .inr (addY_rows rfl _ (Nat.le_refl _)), rfl, rfl, rfl, rfl, rfl, rfl, rfl, rfl, rfl, rfl, rfl, rfl, hR.a, .inr (sameW_rows _), (by (apply Nat.ble_eq_true_of_le; omega)), (by (apply Nat.ble_eq_true_of_le; omega)), hR.a, (by omega), hh.1, hh.2, trivial⟩)⟩
theorem rk7a_1 (n : Nat) (l : Nat) (f : Nat → Nat → AV) (at_ : Int) (h : Int) (sl : Int) (e : Enty) (nw : Nat) (lw : Nat) (g : Nat → Nat → AV) (s2 : Int) (L2 : LS) : callB ERk 3000 96 [AV.ptr 1 0 0, AV.ptr 3 0 0] (rk7aH n l f at_ h sl e nw lw g s2 L2) (rk7aR n l f at_ h sl e nw lw g s2 L2) [(5, Src.nm 2), (6, Src.nm 4)] [Hint.b false] =
 some ([0 = (rkO n (mkR nw g s2 L2) (TO.mk 7 h sl e)).ln,
 (0 : Nat) = 0,
 n = teN n (TO.mk 7 h sl e),
 (none : Option Nat) = none,
 at_ = at_,
 h = (rkO n (mkR nw g s2 L2) (TO.mk 7 h sl e)).h,
 sl = (rkO n (mkR nw g s2 L2) (TO.mk 7 h sl e)).sl,
 e.slot = (rkO n (mkR nw g s2 L2) (TO.mk 7 h sl e)).e.slot,
 e.gen = (rkO n (mkR nw g s2 L2) (TO.mk 7 h sl e)).e.gen,
 e.mark = (rkO n (mkR nw g s2 L2) (TO.mk 7 h sl e)).e.mark,
 e.birth = (rkO n (mkR nw g s2 L2) (TO.mk 7 h sl e)).e.birth,
 e.epoch = (rkO n (mkR nw g s2 L2) (TO.mk 7 h sl e)).e.epoch,
 e.era = (rkO n (mkR nw g s2 L2) (TO.mk 7 h sl e)).e.era,
 false = false,
 teN n (TO.mk 7 h sl e) ≤ l,
 yF (rkE n (fun i => yOf (f i)) (mkR nw g s2 L2) (TO.mk 7 h sl e)) = f ∧ plainSh ySh = true ∨ ∀ (i : Nat), i < teN n (TO.mk 7 h sl e) → rowOb ySh 0 (f i) (yF (rkE n (fun i => yOf (f i)) (mkR nw g s2 L2) (TO.mk 7 h sl e)) i),
 (0 : Nat) = 0,
 nw = (rkS (mkR nw g s2 L2) (TO.mk 7 h sl e)).D.n,
 (none : Option Nat) = none,
 IntKind.i64.wrap (s2 + 1) = (rkS (mkR nw g s2 L2) (TO.mk 7 h sl e)).st,
 (1 : Int) = 1,
 (9 : Int) = 9,
 sl = (rkS (mkR nw g s2 L2) (TO.mk 7 h sl e)).L.a,
 (2 : Int) = 2,
 dWord (dOf nw g) 9 sl 2 = (rkS (mkR nw g s2 L2) (TO.mk 7 h sl e)).L.w,
 dWord (dOf nw g) 9 sl 2 = (rkS (mkR nw g s2 L2) (TO.mk 7 h sl e)).L.i,
 false = (rkS (mkR nw g s2 L2) (TO.mk 7 h sl e)).L.d,
 false = false,
 (rkS (mkR nw g s2 L2) (TO.mk 7 h sl e)).D.n ≤ lw,
 wdF (rkS (mkR nw g s2 L2) (TO.mk 7 h sl e)).D.W = g ∧ plainSh wSh = true ∨ ∀ (i : Nat), i < (rkS (mkR nw g s2 L2) (TO.mk 7 h sl e)).D.n → rowOb wSh 0 (g i) (wdF (rkS (mkR nw g s2 L2) (TO.mk 7 h sl e)).D.W i),
 decide (hSlot (dWord (dOf nw g) 9 sl 2) ≥ 0) = false,
 0 ≤ dWord (dOf nw g) 9 sl 2,
 dWord (dOf nw g) 9 sl 2 < 18446744073709551616,
 nw ≤ lw,
 nw ≤ 1000000,
 0 ≤ h,
 h < 18446744073709551616]) := by kernel_rfl
theorem rk7a_loc (n : Nat) (l : Nat) (f : Nat → Nat → AV) (at_ : Int) (h : Int) (sl : Int) (e : Enty) (nw : Nat) (lw : Nat) (g : Nat → Nat → AV) (s2 : Int) (L2 : LS) : LocOk Tryd.prog 96 [.ptr 1 0 0, .ptr 3 0 0] (rk7aH n l f at_ h sl e nw lw g s2 L2) (rk7aR n l f at_ h sl e nw lw g s2 L2) := by
  refine loc_of_call ERk_ok (fun hp => ?_)
  have hnl : n ≤ l ∧ n ≤ 1000000 := hp _ (List.mem_cons_self ..)
  have hh : R64 h := hp _ (List.mem_cons_of_mem _ (List.mem_cons_self ..))
  have hR : RU nw lw g := hp _ (List.mem_cons_of_mem _ (List.mem_cons_of_mem _ (List.mem_cons_self ..)))
  have hs : hSlot (dWord (dOf nw g) 9 sl 2) < 0 := hp _ (List.mem_cons_of_mem _ (List.mem_cons_of_mem _ (List.mem_cons_of_mem _ (List.mem_cons_self ..))))
  clear hp
  have q := rkO_7a (n := n) (R := (mkR nw g s2 L2)) (h := h) (e := e) (.inl hs)
  have hRb := hR.b
  have t1 : decide (hSlot (dWord (dOf nw g) 9 sl 2) ≥ 0) = false := decide_eq_false (by omega)

  refine ⟨3000, _, _, _, rk7a_1 .., (cj ⟨(by (rw [q]; done)), rfl, rfl, rfl, rfl, (by (rw [q]; done)), (by (rw [q]; done)), (by (rw [q]; done)), (by (rw [q]; done)), (by (rw [q]; done)), (by (rw [q]; done)), (by (rw [q]; done)), (by (rw [q]; done)), rfl, hnl.1, .inr (sameY_rows _), rfl, rfl, rfl, rfl, rfl, rfl, rfl, rfl, rfl, rfl, rfl, rfl, hR.a, .inr (sameW_rows _), (by with_reducible assumption), (hR.r _ _ _).1, (hR.r _ _ _).2, hR.a, (by omega), hh.1, hh.2, trivial⟩)⟩
theorem rk7b_1 (n : Nat) (l : Nat) (f : Nat → Nat → AV) (at_ : Int) (h : Int) (sl : Int) (e : Enty) (nw : Nat) (lw : Nat) (g : Nat → Nat → AV) (s2 : Int) (L2 : LS) : callB ERk 3000 96 [AV.ptr 1 0 0, AV.ptr 3 0 0] (rk7bH n l f at_ h sl e nw lw g s2 L2) (rk7bR n l f at_ h sl e nw lw g s2 L2) [(5, Src.nm 2), (6, Src.nm 4)] [Hint.b true, Hint.b false] =
 some ([0 = (rkO n (mkR nw g s2 L2) (TO.mk 7 h sl e)).ln,
 (0 : Nat) = 0,
 n = teN n (TO.mk 7 h sl e),
 (none : Option Nat) = none,
 at_ = at_,
 h = (rkO n (mkR nw g s2 L2) (TO.mk 7 h sl e)).h,
 sl = (rkO n (mkR nw g s2 L2) (TO.mk 7 h sl e)).sl,
 e.slot = (rkO n (mkR nw g s2 L2) (TO.mk 7 h sl e)).e.slot,
 e.gen = (rkO n (mkR nw g s2 L2) (TO.mk 7 h sl e)).e.gen,
 e.mark = (rkO n (mkR nw g s2 L2) (TO.mk 7 h sl e)).e.mark,
 e.birth = (rkO n (mkR nw g s2 L2) (TO.mk 7 h sl e)).e.birth,
 e.epoch = (rkO n (mkR nw g s2 L2) (TO.mk 7 h sl e)).e.epoch,
 e.era = (rkO n (mkR nw g s2 L2) (TO.mk 7 h sl e)).e.era,
 false = false,
 teN n (TO.mk 7 h sl e) ≤ l,
 yF (rkE n (fun i => yOf (f i)) (mkR nw g s2 L2) (TO.mk 7 h sl e)) = f ∧ plainSh ySh = true ∨ ∀ (i : Nat), i < teN n (TO.mk 7 h sl e) → rowOb ySh 0 (f i) (yF (rkE n (fun i => yOf (f i)) (mkR nw g s2 L2) (TO.mk 7 h sl e)) i),
 (0 : Nat) = 0,
 nw = (rkS (mkR nw g s2 L2) (TO.mk 7 h sl e)).D.n,
 (none : Option Nat) = none,
 IntKind.i64.wrap (s2 + 1) = (rkS (mkR nw g s2 L2) (TO.mk 7 h sl e)).st,
 (1 : Int) = 1,
 (9 : Int) = 9,
 sl = (rkS (mkR nw g s2 L2) (TO.mk 7 h sl e)).L.a,
 (2 : Int) = 2,
 dWord (dOf nw g) 9 sl 2 = (rkS (mkR nw g s2 L2) (TO.mk 7 h sl e)).L.w,
 dWord (dOf nw g) 9 sl 2 = (rkS (mkR nw g s2 L2) (TO.mk 7 h sl e)).L.i,
 false = (rkS (mkR nw g s2 L2) (TO.mk 7 h sl e)).L.d,
 false = false,
 (rkS (mkR nw g s2 L2) (TO.mk 7 h sl e)).D.n ≤ lw,
 wdF (rkS (mkR nw g s2 L2) (TO.mk 7 h sl e)).D.W = g ∧ plainSh wSh = true ∨ ∀ (i : Nat), i < (rkS (mkR nw g s2 L2) (TO.mk 7 h sl e)).D.n → rowOb wSh 0 (g i) (wdF (rkS (mkR nw g s2 L2) (TO.mk 7 h sl e)).D.W i),
 decide (Int.ofNat n < 256) = false,
 decide (hSlot (dWord (dOf nw g) 9 sl 2) ≥ 0) = true,
 0 ≤ dWord (dOf nw g) 9 sl 2,
 dWord (dOf nw g) 9 sl 2 < 18446744073709551616,
 nw ≤ lw,
 nw ≤ 1000000,
 0 ≤ h,
 h < 18446744073709551616]) := by kernel_rfl
theorem rk7b_loc (n : Nat) (l : Nat) (f : Nat → Nat → AV) (at_ : Int) (h : Int) (sl : Int) (e : Enty) (nw : Nat) (lw : Nat) (g : Nat → Nat → AV) (s2 : Int) (L2 : LS) : LocOk Tryd.prog 96 [.ptr 1 0 0, .ptr 3 0 0] (rk7bH n l f at_ h sl e nw lw g s2 L2) (rk7bR n l f at_ h sl e nw lw g s2 L2) := by
  refine loc_of_call ERk_ok (fun hp => ?_)
  have hnl : n ≤ l ∧ n ≤ 1000000 := hp _ (List.mem_cons_self ..)
  have hh : R64 h := hp _ (List.mem_cons_of_mem _ (List.mem_cons_self ..))
  have hR : RU nw lw g := hp _ (List.mem_cons_of_mem _ (List.mem_cons_of_mem _ (List.mem_cons_self ..)))
  have hs : ¬ hSlot (dWord (dOf nw g) 9 sl 2) < 0 := hp _ (List.mem_cons_of_mem _ (List.mem_cons_of_mem _ (List.mem_cons_of_mem _ (List.mem_cons_self ..))))
  have h256 : 256 ≤ n := hp _ (List.mem_cons_of_mem _ (List.mem_cons_of_mem _ (List.mem_cons_of_mem _ (List.mem_cons_of_mem _ (List.mem_cons_self ..)))))
  clear hp
  have q := rkO_7a (n := n) (R := (mkR nw g s2 L2)) (sl := sl) (h := h) (e := e) (.inr h256)
  have hRb := hR.b
  have t1 : decide (hSlot (dWord (dOf nw g) 9 sl 2) ≥ 0) = true := decide_eq_true (by omega)
  have t2 : decide (Int.ofNat n < 256) = false := decide_eq_false (by show ¬ (n : Int) < 256; omega)

  refine ⟨3000, _, _, _, rk7b_1 .., (cj ⟨(by (rw [q]; done)), rfl, rfl, rfl, rfl, (by (rw [q]; done)), (by (rw [q]; done)), (by (rw [q]; done)), (by (rw [q]; done)), (by (rw [q]; done)), (by (rw [q]; done)), (by (rw [q]; done)), (by (rw [q]; done)), rfl, hnl.1, .inr (sameY_rows _), rfl, rfl, rfl, rfl, rfl, rfl, rfl, rfl, rfl, rfl, rfl, rfl, hR.a, .inr (sameW_rows _), (by with_reducible assumption), (by with_reducible assumption), (hR.r _ _ _).1, (hR.r _ _ _).2, hR.a, (by omega), hh.1, hh.2, trivial⟩)⟩
theorem rk7c_1 (n : Nat) (l : Nat) (f : Nat → Nat → AV) (at_ : Int) (h : Int) (sl : Int) (e : Enty) (nw : Nat) (lw : Nat) (g : Nat → Nat → AV) (s2 : Int) (L2 : LS) : callB ERk 3000 96 [AV.ptr 1 0 0, AV.ptr 3 0 0] (rk7cH n l f at_ h sl e nw lw g s2 L2) (rk7cR n l f at_ h sl e nw lw g s2 L2) [(5, Src.nm 2), (6, Src.nm 4)] [Hint.b true, Hint.b true] =
 some ([3 = (rkO n (mkR nw g s2 L2) (TO.mk 7 h sl e)).ln,
 (0 : Nat) = 0,
 n = teN n (TO.mk 7 h sl e),
 (none : Option Nat) = none,
 at_ = at_,
 h = (rkO n (mkR nw g s2 L2) (TO.mk 7 h sl e)).h,
 hSlot (dWord (dOf nw g) 9 sl 2) = (rkO n (mkR nw g s2 L2) (TO.mk 7 h sl e)).sl,
 e.slot = (rkO n (mkR nw g s2 L2) (TO.mk 7 h sl e)).e.slot,
 e.gen = (rkO n (mkR nw g s2 L2) (TO.mk 7 h sl e)).e.gen,
 e.mark = (rkO n (mkR nw g s2 L2) (TO.mk 7 h sl e)).e.mark,
 e.birth = (rkO n (mkR nw g s2 L2) (TO.mk 7 h sl e)).e.birth,
 e.epoch = (rkO n (mkR nw g s2 L2) (TO.mk 7 h sl e)).e.epoch,
 e.era = (rkO n (mkR nw g s2 L2) (TO.mk 7 h sl e)).e.era,
 false = false,
 teN n (TO.mk 7 h sl e) ≤ l,
 yF (rkE n (fun i => yOf (f i)) (mkR nw g s2 L2) (TO.mk 7 h sl e)) = f ∧ plainSh ySh = true ∨ ∀ (i : Nat), i < teN n (TO.mk 7 h sl e) → rowOb ySh 0 (f i) (yF (rkE n (fun i => yOf (f i)) (mkR nw g s2 L2) (TO.mk 7 h sl e)) i),
 (0 : Nat) = 0,
 nw = (rkS (mkR nw g s2 L2) (TO.mk 7 h sl e)).D.n,
 (none : Option Nat) = none,
 IntKind.i64.wrap (s2 + 1) = (rkS (mkR nw g s2 L2) (TO.mk 7 h sl e)).st,
 (1 : Int) = 1,
 (9 : Int) = 9,
 sl = (rkS (mkR nw g s2 L2) (TO.mk 7 h sl e)).L.a,
 (2 : Int) = 2,
 dWord (dOf nw g) 9 sl 2 = (rkS (mkR nw g s2 L2) (TO.mk 7 h sl e)).L.w,
 dWord (dOf nw g) 9 sl 2 = (rkS (mkR nw g s2 L2) (TO.mk 7 h sl e)).L.i,
 false = (rkS (mkR nw g s2 L2) (TO.mk 7 h sl e)).L.d,
 false = false,
 (rkS (mkR nw g s2 L2) (TO.mk 7 h sl e)).D.n ≤ lw,
 wdF (rkS (mkR nw g s2 L2) (TO.mk 7 h sl e)).D.W = g ∧ plainSh wSh = true ∨ ∀ (i : Nat), i < (rkS (mkR nw g s2 L2) (TO.mk 7 h sl e)).D.n → rowOb wSh 0 (g i) (wdF (rkS (mkR nw g s2 L2) (TO.mk 7 h sl e)).D.W i),
 decide (Int.ofNat n < 256) = true,
 decide (hSlot (dWord (dOf nw g) 9 sl 2) ≥ 0) = true,
 0 ≤ dWord (dOf nw g) 9 sl 2,
 dWord (dOf nw g) 9 sl 2 < 18446744073709551616,
 nw ≤ lw,
 nw ≤ 1000000,
 0 ≤ h,
 h < 18446744073709551616]) := by kernel_rfl
theorem rk7c_loc (n : Nat) (l : Nat) (f : Nat → Nat → AV) (at_ : Int) (h : Int) (sl : Int) (e : Enty) (nw : Nat) (lw : Nat) (g : Nat → Nat → AV) (s2 : Int) (L2 : LS) : LocOk Tryd.prog 96 [.ptr 1 0 0, .ptr 3 0 0] (rk7cH n l f at_ h sl e nw lw g s2 L2) (rk7cR n l f at_ h sl e nw lw g s2 L2) := by
  refine loc_of_call ERk_ok (fun hp => ?_)
  have hnl : n ≤ l ∧ n ≤ 1000000 := hp _ (List.mem_cons_self ..)
  have hh : R64 h := hp _ (List.mem_cons_of_mem _ (List.mem_cons_self ..))
  have hR : RU nw lw g := hp _ (List.mem_cons_of_mem _ (List.mem_cons_of_mem _ (List.mem_cons_self ..)))
  have hs : ¬ hSlot (dWord (dOf nw g) 9 sl 2) < 0 := hp _ (List.mem_cons_of_mem _ (List.mem_cons_of_mem _ (List.mem_cons_of_mem _ (List.mem_cons_self ..))))
  have h256 : ¬ 256 ≤ n := hp _ (List.mem_cons_of_mem _ (List.mem_cons_of_mem _ (List.mem_cons_of_mem _ (List.mem_cons_of_mem _ (List.mem_cons_self ..)))))
  clear hp
  have q := rkO_7b (n := n) (R := (mkR nw g s2 L2)) (h := h) (e := e) (fun c => c.elim hs h256)
  have hRb := hR.b
  have t1 : decide (hSlot (dWord (dOf nw g) 9 sl 2) ≥ 0) = true := decide_eq_true (by omega)
  have t2 : decide (Int.ofNat n < 256) = true := decide_eq_true (by show (n : Int) < 256; omega)

  refine ⟨3000, _, _, _, rk7c_1 .., (cj ⟨(by (rw [q]; done)), rfl, rfl, rfl, rfl, (by (rw [q]; done)), (by (rw [q]; rfl)), (by (rw [q]; done)), (by (rw [q]; done)), (by (rw [q]; done)), (by (rw [q]; done)), (by (rw [q]; done)), (by (rw [q]; done)), rfl, hnl.1, .inr (sameY_rows _), rfl, rfl, rfl, rfl, rfl, rfl, rfl, rfl, rfl, rfl, rfl, rfl, hR.a, .inr (sameW_rows _), (by with_reducible assumption), (by with_reducible assumption), (hR.r _ _ _).1, (hR.r _ _ _).2, hR.a, (by omega), hh.1, hh.2, trivial⟩)⟩
end Go.Proofs.YtmndhjodbnojdaaDoor
