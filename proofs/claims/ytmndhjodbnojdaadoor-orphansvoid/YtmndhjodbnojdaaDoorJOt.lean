/-
  Steps of a Take: line by line.
-/
import Derived.Test.YtmndhjodbnojdaaDoorJOtDef
set_option linter.unusedSimpArgs false
set_option linter.unusedVariables false
namespace Go.Proofs.YtmndhjodbnojdaaDoor
open Go.Ev
theorem te0_1 (n : Nat) (l : Nat) (f : Nat → Nat → AV) (h : Int) (sl : Int) (e : Enty) (S : MS) : callB EOr 2000 37 [AV.ptr 1 0 0, AV.ptr 3 0 0] (te0H n l f h sl e S (tabF tab)) (te0R n l f h sl e S (tabF tab)) [(5, Src.nm 2)] [] =
 some ([((0 : Int) == (0 : Int)) = decide ((0 : Int) = (0 : Int)),
 true = true,
 (1 : Nat) ≤ (1 : Nat),
 tabF tab = tabF tab ∧ plainSh (List.map kindOfV tab) = true ∨ ∀ (i : Nat), i < 1 → rowOb (List.map kindOfV tab) 0 (tabF tab i) (tabF tab i),
 (0 : Int) = 0,
 h = (teO n S (TO.mk 0 h sl e)).h,
 sl = (teO n S (TO.mk 0 h sl e)).sl,
 e.slot = (teO n S (TO.mk 0 h sl e)).e.slot,
 e.gen = (teO n S (TO.mk 0 h sl e)).e.gen,
 e.mark = (teO n S (TO.mk 0 h sl e)).e.mark,
 e.birth = (teO n S (TO.mk 0 h sl e)).e.birth,
 e.epoch = (teO n S (TO.mk 0 h sl e)).e.epoch,
 e.era = (teO n S (TO.mk 0 h sl e)).e.era,
 (0 : Nat) = 0,
 n = teN n (TO.mk 0 h sl e),
 (none : Option Nat) = none,
 false = false,
 teN n (TO.mk 0 h sl e) ≤ l,
 yF (teE n (fun i => yOf (f i)) S (TO.mk 0 h sl e)) = f ∧ plainSh ySh = true ∨ ∀ (i : Nat), i < teN n (TO.mk 0 h sl e) → rowOb ySh 0 (f i) (yF (teE n (fun i => yOf (f i)) S (TO.mk 0 h sl e)) i),
 S.st = (teS S (TO.mk 0 h sl e)).st,
 S.L.c = (teS S (TO.mk 0 h sl e)).L.c,
 S.L.k = (teS S (TO.mk 0 h sl e)).L.k,
 S.L.a = (teS S (TO.mk 0 h sl e)).L.a,
 S.L.f = (teS S (TO.mk 0 h sl e)).L.f,
 S.L.w = (teS S (TO.mk 0 h sl e)).L.w,
 S.L.i = (teS S (TO.mk 0 h sl e)).L.i,
 S.L.d = (teS S (TO.mk 0 h sl e)).L.d,
 ∀ (k : List Int), S.M k = (teS S (TO.mk 0 h sl e)).M k]) := by kernel_rfl
theorem te0_loc (n : Nat) (l : Nat) (f : Nat → Nat → AV) (h : Int) (sl : Int) (e : Enty) (S : MS) (FT : Nat → Nat → AV) : LocOk Tryd.prog 37 [.ptr 1 0 0, .ptr 3 0 0] (te0H n l f h sl e S FT) (te0R n l f h sl e S FT) := by
  refine loc_of_call EOr_ok (fun hp => ?_)
  have hFT : FT = tabF tab := hp _ (List.mem_cons_self ..)
  have hu : U64 S := hp _ (List.mem_cons_of_mem _ (List.mem_cons_self ..))
  have hnl : n ≤ l ∧ n ≤ 1000000 := hp _ (List.mem_cons_of_mem _ (List.mem_cons_of_mem _ (List.mem_cons_self ..)))
  clear hp
  subst hFT
  have hnl1 := hnl.1
  have hnl2 := hnl.2

  refine ⟨2000, _, _, _, te0_1 .., (ob_cons ?_ (ob_cons rfl (ob_cons (Nat.le_refl _) (ob_cons (.inl ⟨rfl, rfl⟩) (ob_cons rfl (ob_cons ?_ (ob_cons ?_ (ob_cons ?_ (ob_cons ?_ (ob_cons ?_ (ob_cons ?_ (ob_cons ?_ (ob_cons ?_ (ob_cons rfl (ob_cons ?_ (ob_cons rfl (ob_cons rfl (ob_cons ?_ (ob_cons ?_ (ob_cons ?_ (ob_cons ?_ (ob_cons ?_ (ob_cons ?_ (ob_cons ?_ (ob_cons ?_ (ob_cons ?_ (ob_cons ?_ (ob_cons ?_ ob_nil))))))))))))))))))))))))))))⟩
  · exact rfl
  · exact rfl
  · exact rfl
  · exact rfl
  · exact rfl
  · exact rfl
  · exact rfl
  · exact rfl
  · exact rfl
  · exact rfl
  · exact hnl.1
  · exact .inr (sameY_rows _)
  · exact rfl
  · exact rfl
  · exact rfl
  · exact rfl
  · exact rfl
  · exact rfl
  · exact rfl
  · exact rfl
  · exact fun _ => rfl
theorem te1a_1 (n : Nat) (l : Nat) (f : Nat → Nat → AV) (h : Int) (sl : Int) (e : Enty) (S : MS) : callB EOr 2000 37 [AV.ptr 1 0 0, AV.ptr 3 0 0] (te1aH n l f h sl e S (tabF tab)) (te1aR n l f h sl e S (tabF tab)) [(5, Src.nm 2)] [Hint.b true] =
 some ([((0 : Int) == (0 : Int)) = decide ((teO n S (TO.mk (1 : Int) h sl e)).ln = (0 : Int)),
 true = true,
 (1 : Nat) ≤ (1 : Nat),
 tabF tab = tabF tab ∧ plainSh (List.map kindOfV tab) = true ∨ ∀ (i : Nat), i < 1 → rowOb (List.map kindOfV tab) 0 (tabF tab i) (tabF tab i),
 0 = (teO n S (TO.mk 1 h sl e)).ln,
 mget S.M (key 4 0 0) = (teO n S (TO.mk 1 h sl e)).h,
 sl = (teO n S (TO.mk 1 h sl e)).sl,
 e.slot = (teO n S (TO.mk 1 h sl e)).e.slot,
 e.gen = (teO n S (TO.mk 1 h sl e)).e.gen,
 e.mark = (teO n S (TO.mk 1 h sl e)).e.mark,
 e.birth = (teO n S (TO.mk 1 h sl e)).e.birth,
 e.epoch = (teO n S (TO.mk 1 h sl e)).e.epoch,
 e.era = (teO n S (TO.mk 1 h sl e)).e.era,
 (0 : Nat) = 0,
 n = teN n (TO.mk 1 h sl e),
 (none : Option Nat) = none,
 false = false,
 teN n (TO.mk 1 h sl e) ≤ l,
 yF (teE n (fun i => yOf (f i)) S (TO.mk 1 h sl e)) = f ∧ plainSh ySh = true ∨ ∀ (i : Nat), i < teN n (TO.mk 1 h sl e) → rowOb ySh 0 (f i) (yF (teE n (fun i => yOf (f i)) S (TO.mk 1 h sl e)) i),
 IntKind.i64.wrap (S.st + 1) = (teS S (TO.mk 1 h sl e)).st,
 (1 : Int) = 1,
 (4 : Int) = 4,
 (0 : Int) = 0,
 (0 : Int) = 0,
 mget S.M (key 4 0 0) = (teS S (TO.mk 1 h sl e)).L.w,
 mget S.M (key 4 0 0) = (teS S (TO.mk 1 h sl e)).L.i,
 false = (teS S (TO.mk 1 h sl e)).L.d,
 ∀ (k : List Int), S.M k = (teS S (TO.mk 1 h sl e)).M k,
 decide (hSlot (mget S.M (key 4 0 0)) < 0) = true,
 TabIs tab (tabF tab),
 0 ≤ mget S.M (key 4 0 0),
 mget S.M (key 4 0 0) < 18446744073709551616]) := by kernel_rfl
theorem te1a_2 (n : Nat) (l : Nat) (f : Nat → Nat → AV) (h : Int) (sl : Int) (e : Enty) (S : MS) : callB EOr 2000 37 [AV.ptr 1 0 0, AV.ptr 3 0 0] (te1aH n l f h sl e S (tabF tab)) (te1aR n l f h sl e S (tabF tab)) [(5, Src.nm 2)] [Hint.b false] =
 some ([((2 : Int) == (0 : Int)) = decide ((teO n S (TO.mk (1 : Int) h sl e)).ln = (0 : Int)),
 true = true,
 (1 : Nat) ≤ (1 : Nat),
 tabF tab = tabF tab ∧ plainSh (List.map kindOfV tab) = true ∨ ∀ (i : Nat), i < 1 → rowOb (List.map kindOfV tab) 0 (tabF tab i) (tabF tab i),
 2 = (teO n S (TO.mk 1 h sl e)).ln,
 mget S.M (key 4 0 0) = (teO n S (TO.mk 1 h sl e)).h,
 sl = (teO n S (TO.mk 1 h sl e)).sl,
 e.slot = (teO n S (TO.mk 1 h sl e)).e.slot,
 e.gen = (teO n S (TO.mk 1 h sl e)).e.gen,
 e.mark = (teO n S (TO.mk 1 h sl e)).e.mark,
 e.birth = (teO n S (TO.mk 1 h sl e)).e.birth,
 e.epoch = (teO n S (TO.mk 1 h sl e)).e.epoch,
 e.era = (teO n S (TO.mk 1 h sl e)).e.era,
 (0 : Nat) = 0,
 n = teN n (TO.mk 1 h sl e),
 (none : Option Nat) = none,
 false = false,
 teN n (TO.mk 1 h sl e) ≤ l,
 yF (teE n (fun i => yOf (f i)) S (TO.mk 1 h sl e)) = f ∧ plainSh ySh = true ∨ ∀ (i : Nat), i < teN n (TO.mk 1 h sl e) → rowOb ySh 0 (f i) (yF (teE n (fun i => yOf (f i)) S (TO.mk 1 h sl e)) i),
 IntKind.i64.wrap (S.st + 1) = (teS S (TO.mk 1 h sl e)).st,
 (1 : Int) = 1,
 (4 : Int) = 4,
 (0 : Int) = 0,
 (0 : Int) = 0,
 mget S.M (key 4 0 0) = (teS S (TO.mk 1 h sl e)).L.w,
 mget S.M (key 4 0 0) = (teS S (TO.mk 1 h sl e)).L.i,
 false = (teS S (TO.mk 1 h sl e)).L.d,
 ∀ (k : List Int), S.M k = (teS S (TO.mk 1 h sl e)).M k,
 decide (hSlot (mget S.M (key 4 0 0)) < 0) = false,
 TabIs tab (tabF tab),
 0 ≤ mget S.M (key 4 0 0),
 mget S.M (key 4 0 0) < 18446744073709551616]) := by kernel_rfl
theorem te1a_loc (n : Nat) (l : Nat) (f : Nat → Nat → AV) (h : Int) (sl : Int) (e : Enty) (S : MS) (FT : Nat → Nat → AV) : LocOk Tryd.prog 37 [.ptr 1 0 0, .ptr 3 0 0] (te1aH n l f h sl e S FT) (te1aR n l f h sl e S FT) := by
  refine loc_of_call EOr_ok (fun hp => ?_)
  have hFT : FT = tabF tab := hp _ (List.mem_cons_self ..)
  have hu : U64 S := hp _ (List.mem_cons_of_mem _ (List.mem_cons_self ..))
  have hnl : n ≤ l ∧ n ≤ 1000000 := hp _ (List.mem_cons_of_mem _ (List.mem_cons_of_mem _ (List.mem_cons_self ..)))
  have hs : hSlot (mget S.M (key 4 0 0)) < 0 := hp _ (List.mem_cons_of_mem _ (List.mem_cons_of_mem _ (List.mem_cons_of_mem _ (List.mem_cons_self ..))))
  clear hp
  subst hFT
  have hnl1 := hnl.1
  have hnl2 := hnl.2
  have q := teO_1a (n := n) (h := h) (sl := sl) (e := e) hs

  cases h1 : (decide (hSlot (mget S.M (key 4 0 0)) < 0)) with
  | true =>
    have g1 := of_decide_eq_true h1
    try simp only [Int.ofNat_eq_natCast, ge_iff_le, gt_iff_lt, Int.not_lt, Int.not_le] at g1
    refine ⟨2000, _, _, _, te1a_1 .., (ob_cons ?_ (ob_cons rfl (ob_cons (Nat.le_refl _) (ob_cons (.inl ⟨rfl, rfl⟩) (ob_cons ?_ (ob_cons ?_ (ob_cons ?_ (ob_cons ?_ (ob_cons ?_ (ob_cons ?_ (ob_cons ?_ (ob_cons ?_ (ob_cons ?_ (ob_cons rfl (ob_cons ?_ (ob_cons rfl (ob_cons rfl (ob_cons ?_ (ob_cons ?_ (ob_cons ?_ (ob_cons rfl (ob_cons rfl (ob_cons rfl (ob_cons rfl (ob_cons ?_ (ob_cons ?_ (ob_cons ?_ (ob_cons ?_ (ob_cons h1 (ob_cons (tabIs_self _) (ob_cons ?_ (ob_cons ?_ ob_nil))))))))))))))))))))))))))))))))⟩
    · (rw [q]; rfl)
    · (rw [q]; done)
    · (rw [q]; done)
    · (rw [q]; done)
    · (rw [q]; done)
    · (rw [q]; done)
    · (rw [q]; done)
    · (rw [q]; done)
    · (rw [q]; done)
    · (rw [q]; done)
    · exact rfl
    · exact hnl.1
    · exact .inr (sameY_rows _)
    · exact rfl
    · exact rfl
    · exact rfl
    · exact rfl
    · exact fun _ => rfl
    · exact (hu _).1
    · exact (hu _).2
  | false =>
    have g1 := of_decide_eq_false h1
    try simp only [Int.ofNat_eq_natCast, ge_iff_le, gt_iff_lt, Int.not_lt, Int.not_le] at g1
    refine ⟨2000, _, _, _, te1a_2 .., (ob_cons ?_ (ob_cons rfl (ob_cons (Nat.le_refl _) (ob_cons (.inl ⟨rfl, rfl⟩) (ob_cons ?_ (ob_cons ?_ (ob_cons ?_ (ob_cons ?_ (ob_cons ?_ (ob_cons ?_ (ob_cons ?_ (ob_cons ?_ (ob_cons ?_ (ob_cons rfl (ob_cons ?_ (ob_cons rfl (ob_cons rfl (ob_cons ?_ (ob_cons ?_ (ob_cons ?_ (ob_cons rfl (ob_cons rfl (ob_cons rfl (ob_cons rfl (ob_cons ?_ (ob_cons ?_ (ob_cons ?_ (ob_cons ?_ (ob_cons h1 (ob_cons (tabIs_self _) (ob_cons ?_ (ob_cons ?_ ob_nil))))))))))))))))))))))))))))))))⟩
    · exact absurd hs (by simpa using h1)
    · exact absurd hs (by simpa using h1)
    · exact absurd hs (by simpa using h1)
    · exact absurd hs (by simpa using h1)
    · exact absurd hs (by simpa using h1)
    · exact absurd hs (by simpa using h1)
    · exact absurd hs (by simpa using h1)
    · exact absurd hs (by simpa using h1)
    · exact absurd hs (by simpa using h1)
    · exact absurd hs (by simpa using h1)
    · exact absurd hs (by simpa using h1)
    · exact absurd hs (by simpa using h1)
    · exact absurd hs (by simpa using h1)
    · exact absurd hs (by simpa using h1)
    · exact absurd hs (by simpa using h1)
    · exact absurd hs (by simpa using h1)
    · exact absurd hs (by simpa using h1)
    · exact absurd hs (by simpa using h1)
    · exact absurd hs (by simpa using h1)
    · exact absurd hs (by simpa using h1)
theorem te1b_1 (n : Nat) (l : Nat) (f : Nat → Nat → AV) (h : Int) (sl : Int) (e : Enty) (S : MS) : callB EOr 2000 37 [AV.ptr 1 0 0, AV.ptr 3 0 0] (te1bH n l f h sl e S (tabF tab)) (te1bR n l f h sl e S (tabF tab)) [(5, Src.nm 2)] [Hint.b true] =
 some ([((0 : Int) == (0 : Int)) = decide ((teO n S (TO.mk (1 : Int) h sl e)).ln = (0 : Int)),
 true = true,
 (1 : Nat) ≤ (1 : Nat),
 tabF tab = tabF tab ∧ plainSh (List.map kindOfV tab) = true ∨ ∀ (i : Nat), i < 1 → rowOb (List.map kindOfV tab) 0 (tabF tab i) (tabF tab i),
 0 = (teO n S (TO.mk 1 h sl e)).ln,
 mget S.M (key 4 0 0) = (teO n S (TO.mk 1 h sl e)).h,
 sl = (teO n S (TO.mk 1 h sl e)).sl,
 e.slot = (teO n S (TO.mk 1 h sl e)).e.slot,
 e.gen = (teO n S (TO.mk 1 h sl e)).e.gen,
 e.mark = (teO n S (TO.mk 1 h sl e)).e.mark,
 e.birth = (teO n S (TO.mk 1 h sl e)).e.birth,
 e.epoch = (teO n S (TO.mk 1 h sl e)).e.epoch,
 e.era = (teO n S (TO.mk 1 h sl e)).e.era,
 (0 : Nat) = 0,
 n = teN n (TO.mk 1 h sl e),
 (none : Option Nat) = none,
 false = false,
 teN n (TO.mk 1 h sl e) ≤ l,
 yF (teE n (fun i => yOf (f i)) S (TO.mk 1 h sl e)) = f ∧ plainSh ySh = true ∨ ∀ (i : Nat), i < teN n (TO.mk 1 h sl e) → rowOb ySh 0 (f i) (yF (teE n (fun i => yOf (f i)) S (TO.mk 1 h sl e)) i),
 IntKind.i64.wrap (S.st + 1) = (teS S (TO.mk 1 h sl e)).st,
 (1 : Int) = 1,
 (4 : Int) = 4,
 (0 : Int) = 0,
 (0 : Int) = 0,
 mget S.M (key 4 0 0) = (teS S (TO.mk 1 h sl e)).L.w,
 mget S.M (key 4 0 0) = (teS S (TO.mk 1 h sl e)).L.i,
 false = (teS S (TO.mk 1 h sl e)).L.d,
 ∀ (k : List Int), S.M k = (teS S (TO.mk 1 h sl e)).M k,
 decide (hSlot (mget S.M (key 4 0 0)) < 0) = true,
 TabIs tab (tabF tab),
 0 ≤ mget S.M (key 4 0 0),
 mget S.M (key 4 0 0) < 18446744073709551616]) := by kernel_rfl
theorem te1b_2 (n : Nat) (l : Nat) (f : Nat → Nat → AV) (h : Int) (sl : Int) (e : Enty) (S : MS) : callB EOr 2000 37 [AV.ptr 1 0 0, AV.ptr 3 0 0] (te1bH n l f h sl e S (tabF tab)) (te1bR n l f h sl e S (tabF tab)) [(5, Src.nm 2)] [Hint.b false] =
 some ([((2 : Int) == (0 : Int)) = decide ((teO n S (TO.mk (1 : Int) h sl e)).ln = (0 : Int)),
 true = true,
 (1 : Nat) ≤ (1 : Nat),
 tabF tab = tabF tab ∧ plainSh (List.map kindOfV tab) = true ∨ ∀ (i : Nat), i < 1 → rowOb (List.map kindOfV tab) 0 (tabF tab i) (tabF tab i),
 2 = (teO n S (TO.mk 1 h sl e)).ln,
 mget S.M (key 4 0 0) = (teO n S (TO.mk 1 h sl e)).h,
 sl = (teO n S (TO.mk 1 h sl e)).sl,
 e.slot = (teO n S (TO.mk 1 h sl e)).e.slot,
 e.gen = (teO n S (TO.mk 1 h sl e)).e.gen,
 e.mark = (teO n S (TO.mk 1 h sl e)).e.mark,
 e.birth = (teO n S (TO.mk 1 h sl e)).e.birth,
 e.epoch = (teO n S (TO.mk 1 h sl e)).e.epoch,
 e.era = (teO n S (TO.mk 1 h sl e)).e.era,
 (0 : Nat) = 0,
 n = teN n (TO.mk 1 h sl e),
 (none : Option Nat) = none,
 false = false,
 teN n (TO.mk 1 h sl e) ≤ l,
 yF (teE n (fun i => yOf (f i)) S (TO.mk 1 h sl e)) = f ∧ plainSh ySh = true ∨ ∀ (i : Nat), i < teN n (TO.mk 1 h sl e) → rowOb ySh 0 (f i) (yF (teE n (fun i => yOf (f i)) S (TO.mk 1 h sl e)) i),
 IntKind.i64.wrap (S.st + 1) = (teS S (TO.mk 1 h sl e)).st,
 (1 : Int) = 1,
 (4 : Int) = 4,
 (0 : Int) = 0,
 (0 : Int) = 0,
 mget S.M (key 4 0 0) = (teS S (TO.mk 1 h sl e)).L.w,
 mget S.M (key 4 0 0) = (teS S (TO.mk 1 h sl e)).L.i,
 false = (teS S (TO.mk 1 h sl e)).L.d,
 ∀ (k : List Int), S.M k = (teS S (TO.mk 1 h sl e)).M k,
 decide (hSlot (mget S.M (key 4 0 0)) < 0) = false,
 TabIs tab (tabF tab),
 0 ≤ mget S.M (key 4 0 0),
 mget S.M (key 4 0 0) < 18446744073709551616]) := by kernel_rfl
theorem te1b_loc (n : Nat) (l : Nat) (f : Nat → Nat → AV) (h : Int) (sl : Int) (e : Enty) (S : MS) (FT : Nat → Nat → AV) : LocOk Tryd.prog 37 [.ptr 1 0 0, .ptr 3 0 0] (te1bH n l f h sl e S FT) (te1bR n l f h sl e S FT) := by
  refine loc_of_call EOr_ok (fun hp => ?_)
  have hFT : FT = tabF tab := hp _ (List.mem_cons_self ..)
  have hu : U64 S := hp _ (List.mem_cons_of_mem _ (List.mem_cons_self ..))
  have hnl : n ≤ l ∧ n ≤ 1000000 := hp _ (List.mem_cons_of_mem _ (List.mem_cons_of_mem _ (List.mem_cons_self ..)))
  have hs : ¬ hSlot (mget S.M (key 4 0 0)) < 0 := hp _ (List.mem_cons_of_mem _ (List.mem_cons_of_mem _ (List.mem_cons_of_mem _ (List.mem_cons_self ..))))
  clear hp
  subst hFT
  have hnl1 := hnl.1
  have hnl2 := hnl.2
  have q := teO_1b (n := n) (h := h) (sl := sl) (e := e) hs

  cases h1 : (decide (hSlot (mget S.M (key 4 0 0)) < 0)) with
  | true =>
    have g1 := of_decide_eq_true h1
    try simp only [Int.ofNat_eq_natCast, ge_iff_le, gt_iff_lt, Int.not_lt, Int.not_le] at g1
    refine ⟨2000, _, _, _, te1b_1 .., (ob_cons ?_ (ob_cons rfl (ob_cons (Nat.le_refl _) (ob_cons (.inl ⟨rfl, rfl⟩) (ob_cons ?_ (ob_cons ?_ (ob_cons ?_ (ob_cons ?_ (ob_cons ?_ (ob_cons ?_ (ob_cons ?_ (ob_cons ?_ (ob_cons ?_ (ob_cons rfl (ob_cons ?_ (ob_cons rfl (ob_cons rfl (ob_cons ?_ (ob_cons ?_ (ob_cons ?_ (ob_cons rfl (ob_cons rfl (ob_cons rfl (ob_cons rfl (ob_cons ?_ (ob_cons ?_ (ob_cons ?_ (ob_cons ?_ (ob_cons h1 (ob_cons (tabIs_self _) (ob_cons ?_ (ob_cons ?_ ob_nil))))))))))))))))))))))))))))))))⟩
    · exact absurd hs (by simpa using h1)
    · exact absurd hs (by simpa using h1)
    · exact absurd hs (by simpa using h1)
    · exact absurd hs (by simpa using h1)
    · exact absurd hs (by simpa using h1)
    · exact absurd hs (by simpa using h1)
    · exact absurd hs (by simpa using h1)
    · exact absurd hs (by simpa using h1)
    · exact absurd hs (by simpa using h1)
    · exact absurd hs (by simpa using h1)
    · exact absurd hs (by simpa using h1)
    · exact absurd hs (by simpa using h1)
    · exact absurd hs (by simpa using h1)
    · exact absurd hs (by simpa using h1)
    · exact absurd hs (by simpa using h1)
    · exact absurd hs (by simpa using h1)
    · exact absurd hs (by simpa using h1)
    · exact absurd hs (by simpa using h1)
    · exact absurd hs (by simpa using h1)
    · exact absurd hs (by simpa using h1)
  | false =>
    have g1 := of_decide_eq_false h1
    try simp only [Int.ofNat_eq_natCast, ge_iff_le, gt_iff_lt, Int.not_lt, Int.not_le] at g1
    refine ⟨2000, _, _, _, te1b_2 .., (ob_cons ?_ (ob_cons rfl (ob_cons (Nat.le_refl _) (ob_cons (.inl ⟨rfl, rfl⟩) (ob_cons ?_ (ob_cons ?_ (ob_cons ?_ (ob_cons ?_ (ob_cons ?_ (ob_cons ?_ (ob_cons ?_ (ob_cons ?_ (ob_cons ?_ (ob_cons rfl (ob_cons ?_ (ob_cons rfl (ob_cons rfl (ob_cons ?_ (ob_cons ?_ (ob_cons ?_ (ob_cons rfl (ob_cons rfl (ob_cons rfl (ob_cons rfl (ob_cons ?_ (ob_cons ?_ (ob_cons ?_ (ob_cons ?_ (ob_cons h1 (ob_cons (tabIs_self _) (ob_cons ?_ (ob_cons ?_ ob_nil))))))))))))))))))))))))))))))))⟩
    · (rw [q]; rfl)
    · (rw [q]; done)
    · (rw [q]; done)
    · (rw [q]; done)
    · (rw [q]; done)
    · (rw [q]; done)
    · (rw [q]; done)
    · (rw [q]; done)
    · (rw [q]; done)
    · (rw [q]; done)
    · exact rfl
    · exact hnl.1
    · exact .inr (sameY_rows _)
    · exact rfl
    · exact rfl
    · exact rfl
    · exact rfl
    · exact fun _ => rfl
    · exact (hu _).1
    · exact (hu _).2
theorem te2a_1 (n : Nat) (l : Nat) (f : Nat → Nat → AV) (h : Int) (sl : Int) (e : Enty) (S : MS) : callB EOr 2000 37 [AV.ptr 1 0 0, AV.ptr 3 0 0] (te2aH n l f h sl e S (tabF tab)) (te2aR n l f h sl e S (tabF tab)) [(5, Src.nm 2)] [Hint.node [], Hint.b true] =
 some ([((3 : Int) == (0 : Int)) = decide ((teO n S (TO.mk (2 : Int) h sl e)).ln = (0 : Int)),
 true = true,
 (1 : Nat) ≤ (1 : Nat),
 tabF tab = tabF tab ∧ plainSh (List.map kindOfV tab) = true ∨ ∀ (i : Nat), i < 1 → rowOb (List.map kindOfV tab) 0 (tabF tab i) (tabF tab i),
 3 = (teO n S (TO.mk 2 h sl e)).ln,
 h = (teO n S (TO.mk 2 h sl e)).h,
 hSlot h = (teO n S (TO.mk 2 h sl e)).sl,
 e.slot = (teO n S (TO.mk 2 h sl e)).e.slot,
 e.gen = (teO n S (TO.mk 2 h sl e)).e.gen,
 e.mark = (teO n S (TO.mk 2 h sl e)).e.mark,
 e.birth = (teO n S (TO.mk 2 h sl e)).e.birth,
 e.epoch = (teO n S (TO.mk 2 h sl e)).e.epoch,
 e.era = (teO n S (TO.mk 2 h sl e)).e.era,
 (0 : Nat) = 0,
 n = teN n (TO.mk 2 h sl e),
 (none : Option Nat) = none,
 false = false,
 teN n (TO.mk 2 h sl e) ≤ l,
 yF (teE n (fun i => yOf (f i)) S (TO.mk 2 h sl e)) = f ∧ plainSh ySh = true ∨ ∀ (i : Nat), i < teN n (TO.mk 2 h sl e) → rowOb ySh 0 (f i) (yF (teE n (fun i => yOf (f i)) S (TO.mk 2 h sl e)) i),
 IntKind.i64.wrap (S.st + 1) = (teS S (TO.mk 2 h sl e)).st,
 (3 : Int) = 3,
 (4 : Int) = 4,
 (0 : Int) = 0,
 (0 : Int) = 0,
 mget S.M (key 4 0 0) = (teS S (TO.mk 2 h sl e)).L.w,
 casI S.M 4 0 0 h (hHead (-1) (IntKind.u64.wrap (hTag h + 1))) = (teS S (TO.mk 2 h sl e)).L.i,
 casD S.M 4 0 0 h = (teS S (TO.mk 2 h sl e)).L.d,
 ∀ (k : List Int), casM S.M 4 0 0 h (hHead (-1) (IntKind.u64.wrap (hTag h + 1))) k = (teS S (TO.mk 2 h sl e)).M k,
 TabIs tab (tabF tab),
 0 ≤ h,
 h < 18446744073709551616,
 casD S.M 4 0 0 h = true,
 (0 : Int) ≤ (4 : Int),
 TabIs tab (tabF tab),
 0 ≤ IntKind.u64.wrap (hTag h + 1),
 IntKind.u64.wrap (hTag h + 1) < 18446744073709551616,
 TabIs tab (tabF tab),
 0 ≤ h,
 h < 18446744073709551616]) := by kernel_rfl
theorem te2a_2 (n : Nat) (l : Nat) (f : Nat → Nat → AV) (h : Int) (sl : Int) (e : Enty) (S : MS) : callB EOr 2000 37 [AV.ptr 1 0 0, AV.ptr 3 0 0] (te2aH n l f h sl e S (tabF tab)) (te2aR n l f h sl e S (tabF tab)) [(5, Src.nm 2)] [Hint.node [], Hint.b false] =
 some ([((1 : Int) == (0 : Int)) = decide ((teO n S (TO.mk (2 : Int) h sl e)).ln = (0 : Int)),
 true = true,
 (1 : Nat) ≤ (1 : Nat),
 tabF tab = tabF tab ∧ plainSh (List.map kindOfV tab) = true ∨ ∀ (i : Nat), i < 1 → rowOb (List.map kindOfV tab) 0 (tabF tab i) (tabF tab i),
 1 = (teO n S (TO.mk 2 h sl e)).ln,
 h = (teO n S (TO.mk 2 h sl e)).h,
 sl = (teO n S (TO.mk 2 h sl e)).sl,
 e.slot = (teO n S (TO.mk 2 h sl e)).e.slot,
 e.gen = (teO n S (TO.mk 2 h sl e)).e.gen,
 e.mark = (teO n S (TO.mk 2 h sl e)).e.mark,
 e.birth = (teO n S (TO.mk 2 h sl e)).e.birth,
 e.epoch = (teO n S (TO.mk 2 h sl e)).e.epoch,
 e.era = (teO n S (TO.mk 2 h sl e)).e.era,
 (0 : Nat) = 0,
 n = teN n (TO.mk 2 h sl e),
 (none : Option Nat) = none,
 false = false,
 teN n (TO.mk 2 h sl e) ≤ l,
 yF (teE n (fun i => yOf (f i)) S (TO.mk 2 h sl e)) = f ∧ plainSh ySh = true ∨ ∀ (i : Nat), i < teN n (TO.mk 2 h sl e) → rowOb ySh 0 (f i) (yF (teE n (fun i => yOf (f i)) S (TO.mk 2 h sl e)) i),
 IntKind.i64.wrap (S.st + 1) = (teS S (TO.mk 2 h sl e)).st,
 (3 : Int) = 3,
 (4 : Int) = 4,
 (0 : Int) = 0,
 (0 : Int) = 0,
 mget S.M (key 4 0 0) = (teS S (TO.mk 2 h sl e)).L.w,
 casI S.M 4 0 0 h (hHead (-1) (IntKind.u64.wrap (hTag h + 1))) = (teS S (TO.mk 2 h sl e)).L.i,
 casD S.M 4 0 0 h = (teS S (TO.mk 2 h sl e)).L.d,
 ∀ (k : List Int), casM S.M 4 0 0 h (hHead (-1) (IntKind.u64.wrap (hTag h + 1))) k = (teS S (TO.mk 2 h sl e)).M k,
 casD S.M 4 0 0 h = false,
 (0 : Int) ≤ (4 : Int),
 TabIs tab (tabF tab),
 0 ≤ IntKind.u64.wrap (hTag h + 1),
 IntKind.u64.wrap (hTag h + 1) < 18446744073709551616,
 TabIs tab (tabF tab),
 0 ≤ h,
 h < 18446744073709551616]) := by kernel_rfl
theorem te2a_loc (n : Nat) (l : Nat) (f : Nat → Nat → AV) (h : Int) (sl : Int) (e : Enty) (S : MS) (FT : Nat → Nat → AV) : LocOk Tryd.prog 37 [.ptr 1 0 0, .ptr 3 0 0] (te2aH n l f h sl e S FT) (te2aR n l f h sl e S FT) := by
  refine loc_of_call EOr_ok (fun hp => ?_)
  have hFT : FT = tabF tab := hp _ (List.mem_cons_self ..)
  have hu : U64 S := hp _ (List.mem_cons_of_mem _ (List.mem_cons_self ..))
  have hnl : n ≤ l ∧ n ≤ 1000000 := hp _ (List.mem_cons_of_mem _ (List.mem_cons_of_mem _ (List.mem_cons_self ..)))
  have hh : R64 h := hp _ (List.mem_cons_of_mem _ (List.mem_cons_of_mem _ (List.mem_cons_of_mem _ (List.mem_cons_self ..))))
  have hs : casD S.M 4 0 0 h = true := hp _ (List.mem_cons_of_mem _ (List.mem_cons_of_mem _ (List.mem_cons_of_mem _ (List.mem_cons_of_mem _ (List.mem_cons_self ..)))))
  clear hp
  subst hFT
  have hnl1 := hnl.1
  have hnl2 := hnl.2
  have q := teO_2a (n := n) (sl := sl) (e := e) hs

  cases h1 : (casD S.M 4 0 0 h) with
  | true =>
    refine ⟨2000, _, _, _, te2a_1 .., (ob_cons ?_ (ob_cons rfl (ob_cons (Nat.le_refl _) (ob_cons (.inl ⟨rfl, rfl⟩) (ob_cons ?_ (ob_cons ?_ (ob_cons ?_ (ob_cons ?_ (ob_cons ?_ (ob_cons ?_ (ob_cons ?_ (ob_cons ?_ (ob_cons ?_ (ob_cons rfl (ob_cons ?_ (ob_cons rfl (ob_cons rfl (ob_cons ?_ (ob_cons ?_ (ob_cons ?_ (ob_cons rfl (ob_cons rfl (ob_cons rfl (ob_cons rfl (ob_cons ?_ (ob_cons ?_ (ob_cons ?_ (ob_cons ?_ (ob_cons (tabIs_self _) (ob_cons ?_ (ob_cons ?_ (ob_cons h1 (ob_cons (by decide) (ob_cons (tabIs_self _) (ob_cons ?_ (ob_cons ?_ (ob_cons (tabIs_self _) (ob_cons ?_ (ob_cons ?_ ob_nil)))))))))))))))))))))))))))))))))))))))⟩
    · (rw [q]; rfl)
    · (rw [q]; done)
    · (rw [q]; done)
    · (rw [q]; done)
    · (rw [q]; done)
    · (rw [q]; done)
    · (rw [q]; done)
    · (rw [q]; done)
    · (rw [q]; done)
    · (rw [q]; done)
    · exact rfl
    · exact hnl.1
    · exact .inr (sameY_rows _)
    · exact rfl
    · exact rfl
    · exact rfl
    · exact rfl
    · exact fun _ => rfl
    · exact hh.1
    · exact hh.2
    · exact (w64_r _).1
    · exact (w64_r _).2
    · exact hh.1
    · exact hh.2
  | false =>
    refine ⟨2000, _, _, _, te2a_2 .., (ob_cons ?_ (ob_cons rfl (ob_cons (Nat.le_refl _) (ob_cons (.inl ⟨rfl, rfl⟩) (ob_cons ?_ (ob_cons ?_ (ob_cons ?_ (ob_cons ?_ (ob_cons ?_ (ob_cons ?_ (ob_cons ?_ (ob_cons ?_ (ob_cons ?_ (ob_cons rfl (ob_cons ?_ (ob_cons rfl (ob_cons rfl (ob_cons ?_ (ob_cons ?_ (ob_cons ?_ (ob_cons rfl (ob_cons rfl (ob_cons rfl (ob_cons rfl (ob_cons ?_ (ob_cons ?_ (ob_cons ?_ (ob_cons ?_ (ob_cons h1 (ob_cons (by decide) (ob_cons (tabIs_self _) (ob_cons ?_ (ob_cons ?_ (ob_cons (tabIs_self _) (ob_cons ?_ (ob_cons ?_ ob_nil))))))))))))))))))))))))))))))))))))⟩
    · exact absurd hs (by simpa using h1)
    · exact absurd hs (by simpa using h1)
    · exact absurd hs (by simpa using h1)
    · exact absurd hs (by simpa using h1)
    · exact absurd hs (by simpa using h1)
    · exact absurd hs (by simpa using h1)
    · exact absurd hs (by simpa using h1)
    · exact absurd hs (by simpa using h1)
    · exact absurd hs (by simpa using h1)
    · exact absurd hs (by simpa using h1)
    · exact absurd hs (by simpa using h1)
    · exact absurd hs (by simpa using h1)
    · exact absurd hs (by simpa using h1)
    · exact absurd hs (by simpa using h1)
    · exact absurd hs (by simpa using h1)
    · exact absurd hs (by simpa using h1)
    · exact absurd hs (by simpa using h1)
    · exact absurd hs (by simpa using h1)
    · exact absurd hs (by simpa using h1)
    · exact absurd hs (by simpa using h1)
    · exact absurd hs (by simpa using h1)
    · exact absurd hs (by simpa using h1)
theorem te2b_1 (n : Nat) (l : Nat) (f : Nat → Nat → AV) (h : Int) (sl : Int) (e : Enty) (S : MS) : callB EOr 2000 37 [AV.ptr 1 0 0, AV.ptr 3 0 0] (te2bH n l f h sl e S (tabF tab)) (te2bR n l f h sl e S (tabF tab)) [(5, Src.nm 2)] [Hint.node [], Hint.b true] =
 some ([((3 : Int) == (0 : Int)) = decide ((teO n S (TO.mk (2 : Int) h sl e)).ln = (0 : Int)),
 true = true,
 (1 : Nat) ≤ (1 : Nat),
 tabF tab = tabF tab ∧ plainSh (List.map kindOfV tab) = true ∨ ∀ (i : Nat), i < 1 → rowOb (List.map kindOfV tab) 0 (tabF tab i) (tabF tab i),
 3 = (teO n S (TO.mk 2 h sl e)).ln,
 h = (teO n S (TO.mk 2 h sl e)).h,
 hSlot h = (teO n S (TO.mk 2 h sl e)).sl,
 e.slot = (teO n S (TO.mk 2 h sl e)).e.slot,
 e.gen = (teO n S (TO.mk 2 h sl e)).e.gen,
 e.mark = (teO n S (TO.mk 2 h sl e)).e.mark,
 e.birth = (teO n S (TO.mk 2 h sl e)).e.birth,
 e.epoch = (teO n S (TO.mk 2 h sl e)).e.epoch,
 e.era = (teO n S (TO.mk 2 h sl e)).e.era,
 (0 : Nat) = 0,
 n = teN n (TO.mk 2 h sl e),
 (none : Option Nat) = none,
 false = false,
 teN n (TO.mk 2 h sl e) ≤ l,
 yF (teE n (fun i => yOf (f i)) S (TO.mk 2 h sl e)) = f ∧ plainSh ySh = true ∨ ∀ (i : Nat), i < teN n (TO.mk 2 h sl e) → rowOb ySh 0 (f i) (yF (teE n (fun i => yOf (f i)) S (TO.mk 2 h sl e)) i),
 IntKind.i64.wrap (S.st + 1) = (teS S (TO.mk 2 h sl e)).st,
 (3 : Int) = 3,
 (4 : Int) = 4,
 (0 : Int) = 0,
 (0 : Int) = 0,
 mget S.M (key 4 0 0) = (teS S (TO.mk 2 h sl e)).L.w,
 casI S.M 4 0 0 h (hHead (-1) (IntKind.u64.wrap (hTag h + 1))) = (teS S (TO.mk 2 h sl e)).L.i,
 casD S.M 4 0 0 h = (teS S (TO.mk 2 h sl e)).L.d,
 ∀ (k : List Int), casM S.M 4 0 0 h (hHead (-1) (IntKind.u64.wrap (hTag h + 1))) k = (teS S (TO.mk 2 h sl e)).M k,
 TabIs tab (tabF tab),
 0 ≤ h,
 h < 18446744073709551616,
 casD S.M 4 0 0 h = true,
 (0 : Int) ≤ (4 : Int),
 TabIs tab (tabF tab),
 0 ≤ IntKind.u64.wrap (hTag h + 1),
 IntKind.u64.wrap (hTag h + 1) < 18446744073709551616,
 TabIs tab (tabF tab),
 0 ≤ h,
 h < 18446744073709551616]) := by kernel_rfl
theorem te2b_2 (n : Nat) (l : Nat) (f : Nat → Nat → AV) (h : Int) (sl : Int) (e : Enty) (S : MS) : callB EOr 2000 37 [AV.ptr 1 0 0, AV.ptr 3 0 0] (te2bH n l f h sl e S (tabF tab)) (te2bR n l f h sl e S (tabF tab)) [(5, Src.nm 2)] [Hint.node [], Hint.b false] =
 some ([((1 : Int) == (0 : Int)) = decide ((teO n S (TO.mk (2 : Int) h sl e)).ln = (0 : Int)),
 true = true,
 (1 : Nat) ≤ (1 : Nat),
 tabF tab = tabF tab ∧ plainSh (List.map kindOfV tab) = true ∨ ∀ (i : Nat), i < 1 → rowOb (List.map kindOfV tab) 0 (tabF tab i) (tabF tab i),
 1 = (teO n S (TO.mk 2 h sl e)).ln,
 h = (teO n S (TO.mk 2 h sl e)).h,
 sl = (teO n S (TO.mk 2 h sl e)).sl,
 e.slot = (teO n S (TO.mk 2 h sl e)).e.slot,
 e.gen = (teO n S (TO.mk 2 h sl e)).e.gen,
 e.mark = (teO n S (TO.mk 2 h sl e)).e.mark,
 e.birth = (teO n S (TO.mk 2 h sl e)).e.birth,
 e.epoch = (teO n S (TO.mk 2 h sl e)).e.epoch,
 e.era = (teO n S (TO.mk 2 h sl e)).e.era,
 (0 : Nat) = 0,
 n = teN n (TO.mk 2 h sl e),
 (none : Option Nat) = none,
 false = false,
 teN n (TO.mk 2 h sl e) ≤ l,
 yF (teE n (fun i => yOf (f i)) S (TO.mk 2 h sl e)) = f ∧ plainSh ySh = true ∨ ∀ (i : Nat), i < teN n (TO.mk 2 h sl e) → rowOb ySh 0 (f i) (yF (teE n (fun i => yOf (f i)) S (TO.mk 2 h sl e)) i),
 IntKind.i64.wrap (S.st + 1) = (teS S (TO.mk 2 h sl e)).st,
 (3 : Int) = 3,
 (4 : Int) = 4,
 (0 : Int) = 0,
 (0 : Int) = 0,
 mget S.M (key 4 0 0) = (teS S (TO.mk 2 h sl e)).L.w,
 casI S.M 4 0 0 h (hHead (-1) (IntKind.u64.wrap (hTag h + 1))) = (teS S (TO.mk 2 h sl e)).L.i,
 casD S.M 4 0 0 h = (teS S (TO.mk 2 h sl e)).L.d,
 ∀ (k : List Int), casM S.M 4 0 0 h (hHead (-1) (IntKind.u64.wrap (hTag h + 1))) k = (teS S (TO.mk 2 h sl e)).M k,
 casD S.M 4 0 0 h = false,
 (0 : Int) ≤ (4 : Int),
 TabIs tab (tabF tab),
 0 ≤ IntKind.u64.wrap (hTag h + 1),
 IntKind.u64.wrap (hTag h + 1) < 18446744073709551616,
 TabIs tab (tabF tab),
 0 ≤ h,
 h < 18446744073709551616]) := by kernel_rfl
theorem te2b_loc (n : Nat) (l : Nat) (f : Nat → Nat → AV) (h : Int) (sl : Int) (e : Enty) (S : MS) (FT : Nat → Nat → AV) : LocOk Tryd.prog 37 [.ptr 1 0 0, .ptr 3 0 0] (te2bH n l f h sl e S FT) (te2bR n l f h sl e S FT) := by
  refine loc_of_call EOr_ok (fun hp => ?_)
  have hFT : FT = tabF tab := hp _ (List.mem_cons_self ..)
  have hu : U64 S := hp _ (List.mem_cons_of_mem _ (List.mem_cons_self ..))
  have hnl : n ≤ l ∧ n ≤ 1000000 := hp _ (List.mem_cons_of_mem _ (List.mem_cons_of_mem _ (List.mem_cons_self ..)))
  have hh : R64 h := hp _ (List.mem_cons_of_mem _ (List.mem_cons_of_mem _ (List.mem_cons_of_mem _ (List.mem_cons_self ..))))
  have hs : ¬ casD S.M 4 0 0 h = true := hp _ (List.mem_cons_of_mem _ (List.mem_cons_of_mem _ (List.mem_cons_of_mem _ (List.mem_cons_of_mem _ (List.mem_cons_self ..)))))
  clear hp
  subst hFT
  have hnl1 := hnl.1
  have hnl2 := hnl.2
  have q := teO_2b (n := n) (sl := sl) (e := e) hs
  have hsF : casD S.M 4 0 0 h = false := by simpa using hs
  cases h1 : (casD S.M 4 0 0 h) with
  | true =>
    refine ⟨2000, _, _, _, te2b_1 .., (ob_cons ?_ (ob_cons rfl (ob_cons (Nat.le_refl _) (ob_cons (.inl ⟨rfl, rfl⟩) (ob_cons ?_ (ob_cons ?_ (ob_cons ?_ (ob_cons ?_ (ob_cons ?_ (ob_cons ?_ (ob_cons ?_ (ob_cons ?_ (ob_cons ?_ (ob_cons rfl (ob_cons ?_ (ob_cons rfl (ob_cons rfl (ob_cons ?_ (ob_cons ?_ (ob_cons ?_ (ob_cons rfl (ob_cons rfl (ob_cons rfl (ob_cons rfl (ob_cons ?_ (ob_cons ?_ (ob_cons ?_ (ob_cons ?_ (ob_cons (tabIs_self _) (ob_cons ?_ (ob_cons ?_ (ob_cons h1 (ob_cons (by decide) (ob_cons (tabIs_self _) (ob_cons ?_ (ob_cons ?_ (ob_cons (tabIs_self _) (ob_cons ?_ (ob_cons ?_ ob_nil)))))))))))))))))))))))))))))))))))))))⟩
    · exact absurd hs (by simpa using h1)
    · exact absurd hs (by simpa using h1)
    · exact absurd hs (by simpa using h1)
    · exact absurd hs (by simpa using h1)
    · exact absurd hs (by simpa using h1)
    · exact absurd hs (by simpa using h1)
    · exact absurd hs (by simpa using h1)
    · exact absurd hs (by simpa using h1)
    · exact absurd hs (by simpa using h1)
    · exact absurd hs (by simpa using h1)
    · exact absurd hs (by simpa using h1)
    · exact absurd hs (by simpa using h1)
    · exact absurd hs (by simpa using h1)
    · exact absurd hs (by simpa using h1)
    · exact absurd hs (by simpa using h1)
    · exact absurd hs (by simpa using h1)
    · exact absurd hs (by simpa using h1)
    · exact absurd hs (by simpa using h1)
    · exact absurd hs (by simpa using h1)
    · exact absurd hs (by simpa using h1)
    · exact absurd hs (by simpa using h1)
    · exact absurd hs (by simpa using h1)
    · exact absurd hs (by simpa using h1)
    · exact absurd hs (by simpa using h1)
  | false =>
    refine ⟨2000, _, _, _, te2b_2 .., (ob_cons ?_ (ob_cons rfl (ob_cons (Nat.le_refl _) (ob_cons (.inl ⟨rfl, rfl⟩) (ob_cons ?_ (ob_cons ?_ (ob_cons ?_ (ob_cons ?_ (ob_cons ?_ (ob_cons ?_ (ob_cons ?_ (ob_cons ?_ (ob_cons ?_ (ob_cons rfl (ob_cons ?_ (ob_cons rfl (ob_cons rfl (ob_cons ?_ (ob_cons ?_ (ob_cons ?_ (ob_cons rfl (ob_cons rfl (ob_cons rfl (ob_cons rfl (ob_cons ?_ (ob_cons ?_ (ob_cons ?_ (ob_cons ?_ (ob_cons h1 (ob_cons (by decide) (ob_cons (tabIs_self _) (ob_cons ?_ (ob_cons ?_ (ob_cons (tabIs_self _) (ob_cons ?_ (ob_cons ?_ ob_nil))))))))))))))))))))))))))))))))))))⟩
    · (rw [q]; rfl)
    · (rw [q]; done)
    · (rw [q]; done)
    · (rw [q]; done)
    · (rw [q]; done)
    · (rw [q]; done)
    · (rw [q]; done)
    · (rw [q]; done)
    · (rw [q]; done)
    · (rw [q]; done)
    · exact rfl
    · exact hnl.1
    · exact .inr (sameY_rows _)
    · exact rfl
    · exact rfl
    · exact rfl
    · exact rfl
    · exact fun _ => rfl
    · exact (w64_r _).1
    · exact (w64_r _).2
    · exact hh.1
    · exact hh.2
theorem te3_1 (n : Nat) (l : Nat) (f : Nat → Nat → AV) (h : Int) (sl : Int) (e : Enty) (S : MS) : callB EOr 2000 37 [AV.ptr 1 0 0, AV.ptr 3 0 0] (te3H n l f h sl e S (tabF tab)) (te3R n l f h sl e S (tabF tab)) [(5, Src.nm 2)] [] =
 some ([((4 : Int) == (0 : Int)) = decide ((4 : Int) = (0 : Int)),
 true = true,
 (1 : Nat) ≤ (1 : Nat),
 tabF tab = tabF tab ∧ plainSh (List.map kindOfV tab) = true ∨ ∀ (i : Nat), i < 1 → rowOb (List.map kindOfV tab) 0 (tabF tab i) (tabF tab i),
 (4 : Int) = 4,
 h = (teO n S (TO.mk 3 h sl e)).h,
 sl = (teO n S (TO.mk 3 h sl e)).sl,
 sl = (teO n S (TO.mk 3 h sl e)).e.slot,
 hdrG (mget S.M (key 9 sl 0)) = (teO n S (TO.mk 3 h sl e)).e.gen,
 false = (teO n S (TO.mk 3 h sl e)).e.mark,
 e.birth = (teO n S (TO.mk 3 h sl e)).e.birth,
 e.epoch = (teO n S (TO.mk 3 h sl e)).e.epoch,
 e.era = (teO n S (TO.mk 3 h sl e)).e.era,
 (0 : Nat) = 0,
 n = teN n (TO.mk 3 h sl e),
 (none : Option Nat) = none,
 false = false,
 teN n (TO.mk 3 h sl e) ≤ l,
 yF (teE n (fun i => yOf (f i)) S (TO.mk 3 h sl e)) = f ∧ plainSh ySh = true ∨ ∀ (i : Nat), i < teN n (TO.mk 3 h sl e) → rowOb ySh 0 (f i) (yF (teE n (fun i => yOf (f i)) S (TO.mk 3 h sl e)) i),
 IntKind.i64.wrap (S.st + 1) = (teS S (TO.mk 3 h sl e)).st,
 (1 : Int) = 1,
 (9 : Int) = 9,
 sl = (teS S (TO.mk 3 h sl e)).L.a,
 (0 : Int) = 0,
 mget S.M (key 9 sl 0) = (teS S (TO.mk 3 h sl e)).L.w,
 mget S.M (key 9 sl 0) = (teS S (TO.mk 3 h sl e)).L.i,
 false = (teS S (TO.mk 3 h sl e)).L.d,
 ∀ (k : List Int), S.M k = (teS S (TO.mk 3 h sl e)).M k,
 TabIs tab (tabF tab),
 0 ≤ mget S.M (key 9 sl 0),
 mget S.M (key 9 sl 0) < 18446744073709551616]) := by kernel_rfl
theorem te3_loc (n : Nat) (l : Nat) (f : Nat → Nat → AV) (h : Int) (sl : Int) (e : Enty) (S : MS) (FT : Nat → Nat → AV) : LocOk Tryd.prog 37 [.ptr 1 0 0, .ptr 3 0 0] (te3H n l f h sl e S FT) (te3R n l f h sl e S FT) := by
  refine loc_of_call EOr_ok (fun hp => ?_)
  have hFT : FT = tabF tab := hp _ (List.mem_cons_self ..)
  have hu : U64 S := hp _ (List.mem_cons_of_mem _ (List.mem_cons_self ..))
  have hnl : n ≤ l ∧ n ≤ 1000000 := hp _ (List.mem_cons_of_mem _ (List.mem_cons_of_mem _ (List.mem_cons_self ..)))
  clear hp
  subst hFT
  have hnl1 := hnl.1
  have hnl2 := hnl.2

  refine ⟨2000, _, _, _, te3_1 .., (ob_cons ?_ (ob_cons rfl (ob_cons (Nat.le_refl _) (ob_cons (.inl ⟨rfl, rfl⟩) (ob_cons rfl (ob_cons ?_ (ob_cons ?_ (ob_cons ?_ (ob_cons ?_ (ob_cons ?_ (ob_cons ?_ (ob_cons ?_ (ob_cons ?_ (ob_cons rfl (ob_cons ?_ (ob_cons rfl (ob_cons rfl (ob_cons ?_ (ob_cons ?_ (ob_cons ?_ (ob_cons rfl (ob_cons rfl (ob_cons ?_ (ob_cons rfl (ob_cons ?_ (ob_cons ?_ (ob_cons ?_ (ob_cons ?_ (ob_cons (tabIs_self _) (ob_cons ?_ (ob_cons ?_ ob_nil)))))))))))))))))))))))))))))))⟩
  · exact rfl
  · exact rfl
  · exact rfl
  · exact rfl
  · exact rfl
  · exact rfl
  · exact rfl
  · exact rfl
  · exact rfl
  · exact rfl
  · exact hnl.1
  · exact .inr (sameY_rows _)
  · exact rfl
  · exact rfl
  · exact rfl
  · exact rfl
  · exact rfl
  · exact fun _ => rfl
  · exact (hu _).1
  · exact (hu _).2
theorem te4_1 (n : Nat) (l : Nat) (f : Nat → Nat → AV) (h : Int) (sl : Int) (e : Enty) (S : MS) : callB EOr 2000 37 [AV.ptr 1 0 0, AV.ptr 3 0 0] (te4H n l f h sl e S (tabF tab)) (te4R n l f h sl e S (tabF tab)) [(5, Src.nm 2)] [] =
 some ([((5 : Int) == (0 : Int)) = decide ((5 : Int) = (0 : Int)),
 true = true,
 (1 : Nat) ≤ (1 : Nat),
 tabF tab = tabF tab ∧ plainSh (List.map kindOfV tab) = true ∨ ∀ (i : Nat), i < 1 → rowOb (List.map kindOfV tab) 0 (tabF tab i) (tabF tab i),
 (5 : Int) = 5,
 h = (teO n S (TO.mk 4 h sl e)).h,
 sl = (teO n S (TO.mk 4 h sl e)).sl,
 e.slot = (teO n S (TO.mk 4 h sl e)).e.slot,
 e.gen = (teO n S (TO.mk 4 h sl e)).e.gen,
 e.mark = (teO n S (TO.mk 4 h sl e)).e.mark,
 mget S.M (key 9 sl 1) = (teO n S (TO.mk 4 h sl e)).e.birth,
 e.epoch = (teO n S (TO.mk 4 h sl e)).e.epoch,
 e.era = (teO n S (TO.mk 4 h sl e)).e.era,
 (0 : Nat) = 0,
 n = teN n (TO.mk 4 h sl e),
 (none : Option Nat) = none,
 false = false,
 teN n (TO.mk 4 h sl e) ≤ l,
 yF (teE n (fun i => yOf (f i)) S (TO.mk 4 h sl e)) = f ∧ plainSh ySh = true ∨ ∀ (i : Nat), i < teN n (TO.mk 4 h sl e) → rowOb ySh 0 (f i) (yF (teE n (fun i => yOf (f i)) S (TO.mk 4 h sl e)) i),
 IntKind.i64.wrap (S.st + 1) = (teS S (TO.mk 4 h sl e)).st,
 (1 : Int) = 1,
 (9 : Int) = 9,
 sl = (teS S (TO.mk 4 h sl e)).L.a,
 (1 : Int) = 1,
 mget S.M (key 9 sl 1) = (teS S (TO.mk 4 h sl e)).L.w,
 mget S.M (key 9 sl 1) = (teS S (TO.mk 4 h sl e)).L.i,
 false = (teS S (TO.mk 4 h sl e)).L.d,
 ∀ (k : List Int), S.M k = (teS S (TO.mk 4 h sl e)).M k]) := by kernel_rfl
theorem te4_loc (n : Nat) (l : Nat) (f : Nat → Nat → AV) (h : Int) (sl : Int) (e : Enty) (S : MS) (FT : Nat → Nat → AV) : LocOk Tryd.prog 37 [.ptr 1 0 0, .ptr 3 0 0] (te4H n l f h sl e S FT) (te4R n l f h sl e S FT) := by
  refine loc_of_call EOr_ok (fun hp => ?_)
  have hFT : FT = tabF tab := hp _ (List.mem_cons_self ..)
  have hu : U64 S := hp _ (List.mem_cons_of_mem _ (List.mem_cons_self ..))
  have hnl : n ≤ l ∧ n ≤ 1000000 := hp _ (List.mem_cons_of_mem _ (List.mem_cons_of_mem _ (List.mem_cons_self ..)))
  clear hp
  subst hFT
  have hnl1 := hnl.1
  have hnl2 := hnl.2

  refine ⟨2000, _, _, _, te4_1 .., (ob_cons ?_ (ob_cons rfl (ob_cons (Nat.le_refl _) (ob_cons (.inl ⟨rfl, rfl⟩) (ob_cons rfl (ob_cons ?_ (ob_cons ?_ (ob_cons ?_ (ob_cons ?_ (ob_cons ?_ (ob_cons ?_ (ob_cons ?_ (ob_cons ?_ (ob_cons rfl (ob_cons ?_ (ob_cons rfl (ob_cons rfl (ob_cons ?_ (ob_cons ?_ (ob_cons ?_ (ob_cons rfl (ob_cons rfl (ob_cons ?_ (ob_cons rfl (ob_cons ?_ (ob_cons ?_ (ob_cons ?_ (ob_cons ?_ ob_nil))))))))))))))))))))))))))))⟩
  · exact rfl
  · exact rfl
  · exact rfl
  · exact rfl
  · exact rfl
  · exact rfl
  · exact rfl
  · exact rfl
  · exact rfl
  · exact rfl
  · exact hnl.1
  · exact .inr (sameY_rows _)
  · exact rfl
  · exact rfl
  · exact rfl
  · exact rfl
  · exact rfl
  · exact fun _ => rfl
theorem te5_1 (n : Nat) (l : Nat) (f : Nat → Nat → AV) (h : Int) (sl : Int) (e : Enty) (S : MS) : callB EOr 2000 37 [AV.ptr 1 0 0, AV.ptr 3 0 0] (te5H n l f h sl e S (tabF tab)) (te5R n l f h sl e S (tabF tab)) [(5, Src.nm 2)] [] =
 some ([((6 : Int) == (0 : Int)) = decide ((6 : Int) = (0 : Int)),
 true = true,
 (1 : Nat) ≤ (1 : Nat),
 tabF tab = tabF tab ∧ plainSh (List.map kindOfV tab) = true ∨ ∀ (i : Nat), i < 1 → rowOb (List.map kindOfV tab) 0 (tabF tab i) (tabF tab i),
 (6 : Int) = 6,
 h = (teO n S (TO.mk 5 h sl e)).h,
 sl = (teO n S (TO.mk 5 h sl e)).sl,
 e.slot = (teO n S (TO.mk 5 h sl e)).e.slot,
 e.gen = (teO n S (TO.mk 5 h sl e)).e.gen,
 e.mark = (teO n S (TO.mk 5 h sl e)).e.mark,
 e.birth = (teO n S (TO.mk 5 h sl e)).e.birth,
 mget S.M (key 9 sl 3) = (teO n S (TO.mk 5 h sl e)).e.epoch,
 e.era = (teO n S (TO.mk 5 h sl e)).e.era,
 (0 : Nat) = 0,
 n = teN n (TO.mk 5 h sl e),
 (none : Option Nat) = none,
 false = false,
 teN n (TO.mk 5 h sl e) ≤ l,
 yF (teE n (fun i => yOf (f i)) S (TO.mk 5 h sl e)) = f ∧ plainSh ySh = true ∨ ∀ (i : Nat), i < teN n (TO.mk 5 h sl e) → rowOb ySh 0 (f i) (yF (teE n (fun i => yOf (f i)) S (TO.mk 5 h sl e)) i),
 IntKind.i64.wrap (S.st + 1) = (teS S (TO.mk 5 h sl e)).st,
 (1 : Int) = 1,
 (9 : Int) = 9,
 sl = (teS S (TO.mk 5 h sl e)).L.a,
 (3 : Int) = 3,
 mget S.M (key 9 sl 3) = (teS S (TO.mk 5 h sl e)).L.w,
 mget S.M (key 9 sl 3) = (teS S (TO.mk 5 h sl e)).L.i,
 false = (teS S (TO.mk 5 h sl e)).L.d,
 ∀ (k : List Int), S.M k = (teS S (TO.mk 5 h sl e)).M k]) := by kernel_rfl
theorem te5_loc (n : Nat) (l : Nat) (f : Nat → Nat → AV) (h : Int) (sl : Int) (e : Enty) (S : MS) (FT : Nat → Nat → AV) : LocOk Tryd.prog 37 [.ptr 1 0 0, .ptr 3 0 0] (te5H n l f h sl e S FT) (te5R n l f h sl e S FT) := by
  refine loc_of_call EOr_ok (fun hp => ?_)
  have hFT : FT = tabF tab := hp _ (List.mem_cons_self ..)
  have hu : U64 S := hp _ (List.mem_cons_of_mem _ (List.mem_cons_self ..))
  have hnl : n ≤ l ∧ n ≤ 1000000 := hp _ (List.mem_cons_of_mem _ (List.mem_cons_of_mem _ (List.mem_cons_self ..)))
  clear hp
  subst hFT
  have hnl1 := hnl.1
  have hnl2 := hnl.2

  refine ⟨2000, _, _, _, te5_1 .., (ob_cons ?_ (ob_cons rfl (ob_cons (Nat.le_refl _) (ob_cons (.inl ⟨rfl, rfl⟩) (ob_cons rfl (ob_cons ?_ (ob_cons ?_ (ob_cons ?_ (ob_cons ?_ (ob_cons ?_ (ob_cons ?_ (ob_cons ?_ (ob_cons ?_ (ob_cons rfl (ob_cons ?_ (ob_cons rfl (ob_cons rfl (ob_cons ?_ (ob_cons ?_ (ob_cons ?_ (ob_cons rfl (ob_cons rfl (ob_cons ?_ (ob_cons rfl (ob_cons ?_ (ob_cons ?_ (ob_cons ?_ (ob_cons ?_ ob_nil))))))))))))))))))))))))))))⟩
  · exact rfl
  · exact rfl
  · exact rfl
  · exact rfl
  · exact rfl
  · exact rfl
  · exact rfl
  · exact rfl
  · exact rfl
  · exact rfl
  · exact hnl.1
  · exact .inr (sameY_rows _)
  · exact rfl
  · exact rfl
  · exact rfl
  · exact rfl
  · exact rfl
  · exact fun _ => rfl
theorem te6_1 (n : Nat) (l : Nat) (f : Nat → Nat → AV) (h : Int) (sl : Int) (e : Enty) (S : MS) : callB EOr 2000 37 [AV.ptr 1 0 0, AV.ptr 3 0 0] (te6H n l f h sl e S (tabF tab)) (te6R n l f h sl e S (tabF tab)) [(5, Src.nm 2045869129935088668758243560517249470135401278776915493427057105060083622752921596802043807703690098219304177579725044380760785341178370658330329743356)] [] =
 some ([((7 : Int) == (0 : Int)) = decide ((7 : Int) = (0 : Int)),
 true = true,
 (1 : Nat) ≤ (1 : Nat),
 tabF tab = tabF tab ∧ plainSh (List.map kindOfV tab) = true ∨ ∀ (i : Nat), i < 1 → rowOb (List.map kindOfV tab) 0 (tabF tab i) (tabF tab i),
 (7 : Int) = 7,
 h = (teO n S (TO.mk 6 h sl e)).h,
 sl = (teO n S (TO.mk 6 h sl e)).sl,
 e.slot = (teO n S (TO.mk 6 h sl e)).e.slot,
 e.gen = (teO n S (TO.mk 6 h sl e)).e.gen,
 e.mark = (teO n S (TO.mk 6 h sl e)).e.mark,
 e.birth = (teO n S (TO.mk 6 h sl e)).e.birth,
 e.epoch = (teO n S (TO.mk 6 h sl e)).e.epoch,
 mget S.M (key 9 sl 4) = (teO n S (TO.mk 6 h sl e)).e.era,
 (0 : Nat) = 0,
 n + 1 = teN n (TO.mk 6 h sl e),
 (none : Option Nat) = none,
 false = false,
 teN n (TO.mk 6 h sl e) ≤ n + 1,
 (yF (teE n (fun i => yOf (f i)) S (TO.mk 6 h sl e)) = fun i j => if i < n then f (0 + i) j else rowsOf 6 [AV.sym IntKind.i64 e.slot, AV.sym IntKind.u32 e.gen, AV.symb e.mark, AV.sym IntKind.u64 e.birth, AV.sym IntKind.u64 e.epoch, AV.sym IntKind.u64 (mget S.M (key 9 sl 4))] (i - n) j) ∧ plainSh ySh = true ∨ ∀ (i : Nat), i < teN n (TO.mk 6 h sl e) → rowOb ySh 0 (fun j => if i < n then f (0 + i) j else rowsOf 6 [AV.sym IntKind.i64 e.slot, AV.sym IntKind.u32 e.gen, AV.symb e.mark, AV.sym IntKind.u64 e.birth, AV.sym IntKind.u64 e.epoch, AV.sym IntKind.u64 (mget S.M (key 9 sl 4))] (i - n) j) (yF (teE n (fun i => yOf (f i)) S (TO.mk 6 h sl e)) i),
 IntKind.i64.wrap (S.st + 1) = (teS S (TO.mk 6 h sl e)).st,
 (1 : Int) = 1,
 (9 : Int) = 9,
 sl = (teS S (TO.mk 6 h sl e)).L.a,
 (4 : Int) = 4,
 mget S.M (key 9 sl 4) = (teS S (TO.mk 6 h sl e)).L.w,
 mget S.M (key 9 sl 4) = (teS S (TO.mk 6 h sl e)).L.i,
 false = (teS S (TO.mk 6 h sl e)).L.d,
 ∀ (k : List Int), S.M k = (teS S (TO.mk 6 h sl e)).M k,
 ((n + 1) * 40).ble 70368744177664 = true,
 (0 + n).ble l = true]) := by kernel_rfl
theorem te6_loc (n : Nat) (l : Nat) (f : Nat → Nat → AV) (h : Int) (sl : Int) (e : Enty) (S : MS) (FT : Nat → Nat → AV) : LocOk Tryd.prog 37 [.ptr 1 0 0, .ptr 3 0 0] (te6H n l f h sl e S FT) (te6R n l f h sl e S FT) := by
  refine loc_of_call EOr_ok (fun hp => ?_)
  have hFT : FT = tabF tab := hp _ (List.mem_cons_self ..)
  have hu : U64 S := hp _ (List.mem_cons_of_mem _ (List.mem_cons_self ..))
  have hnl : n ≤ l ∧ n ≤ 1000000 := hp _ (List.mem_cons_of_mem _ (List.mem_cons_of_mem _ (List.mem_cons_self ..)))
  clear hp
  subst hFT
  have hnl1 := hnl.1
  have hnl2 := hnl.2

  refine ⟨2000, _, _, _, te6_1 .., (ob_cons ?_ (ob_cons rfl (ob_cons (Nat.le_refl _) (ob_cons (.inl ⟨rfl, rfl⟩) (ob_cons rfl (ob_cons ?_ (ob_cons ?_ (ob_cons ?_ (ob_cons ?_ (ob_cons ?_ (ob_cons ?_ (ob_cons ?_ (ob_cons ?_ (ob_cons rfl (ob_cons ?_ (ob_cons rfl (ob_cons rfl (ob_cons ?_ (ob_cons ?_ (ob_cons ?_ (ob_cons rfl (ob_cons rfl (ob_cons ?_ (ob_cons rfl (ob_cons ?_ (ob_cons ?_ (ob_cons ?_ (ob_cons ?_ (ob_cons ?_ (ob_cons ?_ ob_nil))))))))))))))))))))))))))))))⟩
  · exact rfl
  · exact rfl
  · exact rfl
  · exact rfl
  · exact rfl
  · exact rfl
  · exact rfl
  · exact rfl
  · exact rfl
  · exact rfl
  · exact Nat.le_refl _
  · exact .inr (addY_rows rfl _ (Nat.le_refl _))
  · exact rfl
  · exact rfl
  · exact rfl
  · exact rfl
  · exact rfl
  · exact fun _ => rfl
  · (apply Nat.ble_eq_true_of_le; omega)
  · (apply Nat.ble_eq_true_of_le; omega)
theorem te7a_1 (n : Nat) (l : Nat) (f : Nat → Nat → AV) (h : Int) (sl : Int) (e : Enty) (S : MS) : callB EOr 2000 37 [AV.ptr 1 0 0, AV.ptr 3 0 0] (te7aH n l f h sl e S (tabF tab)) (te7aR n l f h sl e S (tabF tab)) [(5, Src.nm 2)] [Hint.b true] =
 some ([((0 : Int) == (0 : Int)) = decide ((teO n S (TO.mk (7 : Int) h sl e)).ln = (0 : Int)),
 true = true,
 (1 : Nat) ≤ (1 : Nat),
 tabF tab = tabF tab ∧ plainSh (List.map kindOfV tab) = true ∨ ∀ (i : Nat), i < 1 → rowOb (List.map kindOfV tab) 0 (tabF tab i) (tabF tab i),
 0 = (teO n S (TO.mk 7 h sl e)).ln,
 h = (teO n S (TO.mk 7 h sl e)).h,
 hSlot (mget S.M (key 9 sl 2)) = (teO n S (TO.mk 7 h sl e)).sl,
 e.slot = (teO n S (TO.mk 7 h sl e)).e.slot,
 e.gen = (teO n S (TO.mk 7 h sl e)).e.gen,
 e.mark = (teO n S (TO.mk 7 h sl e)).e.mark,
 e.birth = (teO n S (TO.mk 7 h sl e)).e.birth,
 e.epoch = (teO n S (TO.mk 7 h sl e)).e.epoch,
 e.era = (teO n S (TO.mk 7 h sl e)).e.era,
 (0 : Nat) = 0,
 n = teN n (TO.mk 7 h sl e),
 (none : Option Nat) = none,
 false = false,
 teN n (TO.mk 7 h sl e) ≤ l,
 yF (teE n (fun i => yOf (f i)) S (TO.mk 7 h sl e)) = f ∧ plainSh ySh = true ∨ ∀ (i : Nat), i < teN n (TO.mk 7 h sl e) → rowOb ySh 0 (f i) (yF (teE n (fun i => yOf (f i)) S (TO.mk 7 h sl e)) i),
 IntKind.i64.wrap (S.st + 1) = (teS S (TO.mk 7 h sl e)).st,
 (1 : Int) = 1,
 (9 : Int) = 9,
 sl = (teS S (TO.mk 7 h sl e)).L.a,
 (2 : Int) = 2,
 mget S.M (key 9 sl 2) = (teS S (TO.mk 7 h sl e)).L.w,
 mget S.M (key 9 sl 2) = (teS S (TO.mk 7 h sl e)).L.i,
 false = (teS S (TO.mk 7 h sl e)).L.d,
 ∀ (k : List Int), S.M k = (teS S (TO.mk 7 h sl e)).M k,
 decide (hSlot (mget S.M (key 9 sl 2)) < 0) = true,
 TabIs tab (tabF tab),
 0 ≤ mget S.M (key 9 sl 2),
 mget S.M (key 9 sl 2) < 18446744073709551616]) := by kernel_rfl
theorem te7a_2 (n : Nat) (l : Nat) (f : Nat → Nat → AV) (h : Int) (sl : Int) (e : Enty) (S : MS) : callB EOr 2000 37 [AV.ptr 1 0 0, AV.ptr 3 0 0] (te7aH n l f h sl e S (tabF tab)) (te7aR n l f h sl e S (tabF tab)) [(5, Src.nm 2)] [Hint.b false, Hint.b true] =
 some ([((0 : Int) == (0 : Int)) = decide ((teO n S (TO.mk (7 : Int) h sl e)).ln = (0 : Int)),
 true = true,
 (1 : Nat) ≤ (1 : Nat),
 tabF tab = tabF tab ∧ plainSh (List.map kindOfV tab) = true ∨ ∀ (i : Nat), i < 1 → rowOb (List.map kindOfV tab) 0 (tabF tab i) (tabF tab i),
 0 = (teO n S (TO.mk 7 h sl e)).ln,
 h = (teO n S (TO.mk 7 h sl e)).h,
 hSlot (mget S.M (key 9 sl 2)) = (teO n S (TO.mk 7 h sl e)).sl,
 e.slot = (teO n S (TO.mk 7 h sl e)).e.slot,
 e.gen = (teO n S (TO.mk 7 h sl e)).e.gen,
 e.mark = (teO n S (TO.mk 7 h sl e)).e.mark,
 e.birth = (teO n S (TO.mk 7 h sl e)).e.birth,
 e.epoch = (teO n S (TO.mk 7 h sl e)).e.epoch,
 e.era = (teO n S (TO.mk 7 h sl e)).e.era,
 (0 : Nat) = 0,
 n = teN n (TO.mk 7 h sl e),
 (none : Option Nat) = none,
 false = false,
 teN n (TO.mk 7 h sl e) ≤ l,
 yF (teE n (fun i => yOf (f i)) S (TO.mk 7 h sl e)) = f ∧ plainSh ySh = true ∨ ∀ (i : Nat), i < teN n (TO.mk 7 h sl e) → rowOb ySh 0 (f i) (yF (teE n (fun i => yOf (f i)) S (TO.mk 7 h sl e)) i),
 IntKind.i64.wrap (S.st + 1) = (teS S (TO.mk 7 h sl e)).st,
 (1 : Int) = 1,
 (9 : Int) = 9,
 sl = (teS S (TO.mk 7 h sl e)).L.a,
 (2 : Int) = 2,
 mget S.M (key 9 sl 2) = (teS S (TO.mk 7 h sl e)).L.w,
 mget S.M (key 9 sl 2) = (teS S (TO.mk 7 h sl e)).L.i,
 false = (teS S (TO.mk 7 h sl e)).L.d,
 ∀ (k : List Int), S.M k = (teS S (TO.mk 7 h sl e)).M k,
 decide (Int.ofNat n ≥ 256) = true,
 decide (hSlot (mget S.M (key 9 sl 2)) < 0) = false,
 TabIs tab (tabF tab),
 0 ≤ mget S.M (key 9 sl 2),
 mget S.M (key 9 sl 2) < 18446744073709551616]) := by kernel_rfl
theorem te7a_3 (n : Nat) (l : Nat) (f : Nat → Nat → AV) (h : Int) (sl : Int) (e : Enty) (S : MS) : callB EOr 2000 37 [AV.ptr 1 0 0, AV.ptr 3 0 0] (te7aH n l f h sl e S (tabF tab)) (te7aR n l f h sl e S (tabF tab)) [(5, Src.nm 2)] [Hint.b false, Hint.b false] =
 some ([((3 : Int) == (0 : Int)) = decide ((teO n S (TO.mk (7 : Int) h sl e)).ln = (0 : Int)),
 true = true,
 (1 : Nat) ≤ (1 : Nat),
 tabF tab = tabF tab ∧ plainSh (List.map kindOfV tab) = true ∨ ∀ (i : Nat), i < 1 → rowOb (List.map kindOfV tab) 0 (tabF tab i) (tabF tab i),
 3 = (teO n S (TO.mk 7 h sl e)).ln,
 h = (teO n S (TO.mk 7 h sl e)).h,
 hSlot (mget S.M (key 9 sl 2)) = (teO n S (TO.mk 7 h sl e)).sl,
 e.slot = (teO n S (TO.mk 7 h sl e)).e.slot,
 e.gen = (teO n S (TO.mk 7 h sl e)).e.gen,
 e.mark = (teO n S (TO.mk 7 h sl e)).e.mark,
 e.birth = (teO n S (TO.mk 7 h sl e)).e.birth,
 e.epoch = (teO n S (TO.mk 7 h sl e)).e.epoch,
 e.era = (teO n S (TO.mk 7 h sl e)).e.era,
 (0 : Nat) = 0,
 n = teN n (TO.mk 7 h sl e),
 (none : Option Nat) = none,
 false = false,
 teN n (TO.mk 7 h sl e) ≤ l,
 yF (teE n (fun i => yOf (f i)) S (TO.mk 7 h sl e)) = f ∧ plainSh ySh = true ∨ ∀ (i : Nat), i < teN n (TO.mk 7 h sl e) → rowOb ySh 0 (f i) (yF (teE n (fun i => yOf (f i)) S (TO.mk 7 h sl e)) i),
 IntKind.i64.wrap (S.st + 1) = (teS S (TO.mk 7 h sl e)).st,
 (1 : Int) = 1,
 (9 : Int) = 9,
 sl = (teS S (TO.mk 7 h sl e)).L.a,
 (2 : Int) = 2,
 mget S.M (key 9 sl 2) = (teS S (TO.mk 7 h sl e)).L.w,
 mget S.M (key 9 sl 2) = (teS S (TO.mk 7 h sl e)).L.i,
 false = (teS S (TO.mk 7 h sl e)).L.d,
 ∀ (k : List Int), S.M k = (teS S (TO.mk 7 h sl e)).M k,
 decide (Int.ofNat n ≥ 256) = false,
 decide (hSlot (mget S.M (key 9 sl 2)) < 0) = false,
 TabIs tab (tabF tab),
 0 ≤ mget S.M (key 9 sl 2),
 mget S.M (key 9 sl 2) < 18446744073709551616]) := by kernel_rfl
theorem te7a_loc (n : Nat) (l : Nat) (f : Nat → Nat → AV) (h : Int) (sl : Int) (e : Enty) (S : MS) (FT : Nat → Nat → AV) : LocOk Tryd.prog 37 [.ptr 1 0 0, .ptr 3 0 0] (te7aH n l f h sl e S FT) (te7aR n l f h sl e S FT) := by
  refine loc_of_call EOr_ok (fun hp => ?_)
  have hFT : FT = tabF tab := hp _ (List.mem_cons_self ..)
  have hu : U64 S := hp _ (List.mem_cons_of_mem _ (List.mem_cons_self ..))
  have hnl : n ≤ l ∧ n ≤ 1000000 := hp _ (List.mem_cons_of_mem _ (List.mem_cons_of_mem _ (List.mem_cons_self ..)))
  have hs : hSlot (mget S.M (key 9 sl 2)) < 0 := hp _ (List.mem_cons_of_mem _ (List.mem_cons_of_mem _ (List.mem_cons_of_mem _ (List.mem_cons_self ..))))
  clear hp
  subst hFT
  have hnl1 := hnl.1
  have hnl2 := hnl.2
  have q := teO_7a (n := n) (h := h) (e := e) (.inl hs)

  cases h1 : (decide (hSlot (mget S.M (key 9 sl 2)) < 0)) with
  | true =>
    have g1 := of_decide_eq_true h1
    try simp only [Int.ofNat_eq_natCast, ge_iff_le, gt_iff_lt, Int.not_lt, Int.not_le] at g1
    refine ⟨2000, _, _, _, te7a_1 .., (ob_cons ?_ (ob_cons rfl (ob_cons (Nat.le_refl _) (ob_cons (.inl ⟨rfl, rfl⟩) (ob_cons ?_ (ob_cons ?_ (ob_cons ?_ (ob_cons ?_ (ob_cons ?_ (ob_cons ?_ (ob_cons ?_ (ob_cons ?_ (ob_cons ?_ (ob_cons rfl (ob_cons ?_ (ob_cons rfl (ob_cons rfl (ob_cons ?_ (ob_cons ?_ (ob_cons ?_ (ob_cons rfl (ob_cons rfl (ob_cons ?_ (ob_cons rfl (ob_cons ?_ (ob_cons ?_ (ob_cons ?_ (ob_cons ?_ (ob_cons h1 (ob_cons (tabIs_self _) (ob_cons ?_ (ob_cons ?_ ob_nil))))))))))))))))))))))))))))))))⟩
    · (rw [q]; rfl)
    · (rw [q]; done)
    · (rw [q]; done)
    · (rw [q]; done)
    · (rw [q]; done)
    · (rw [q]; done)
    · (rw [q]; done)
    · (rw [q]; done)
    · (rw [q]; done)
    · (rw [q]; done)
    · exact rfl
    · exact hnl.1
    · exact .inr (sameY_rows _)
    · exact rfl
    · exact rfl
    · exact rfl
    · exact rfl
    · exact rfl
    · exact fun _ => rfl
    · exact (hu _).1
    · exact (hu _).2
  | false =>
    have g1 := of_decide_eq_false h1
    try simp only [Int.ofNat_eq_natCast, ge_iff_le, gt_iff_lt, Int.not_lt, Int.not_le] at g1
    cases h2 : (decide (Int.ofNat n ≥ 256)) with
    | true =>
      have g2 := of_decide_eq_true h2
      try simp only [Int.ofNat_eq_natCast, ge_iff_le, gt_iff_lt, Int.not_lt, Int.not_le] at g2
      refine ⟨2000, _, _, _, te7a_2 .., (ob_cons ?_ (ob_cons rfl (ob_cons (Nat.le_refl _) (ob_cons (.inl ⟨rfl, rfl⟩) (ob_cons ?_ (ob_cons ?_ (ob_cons ?_ (ob_cons ?_ (ob_cons ?_ (ob_cons ?_ (ob_cons ?_ (ob_cons ?_ (ob_cons ?_ (ob_cons rfl (ob_cons ?_ (ob_cons rfl (ob_cons rfl (ob_cons ?_ (ob_cons ?_ (ob_cons ?_ (ob_cons rfl (ob_cons rfl (ob_cons ?_ (ob_cons rfl (ob_cons ?_ (ob_cons ?_ (ob_cons ?_ (ob_cons ?_ (ob_cons h2 (ob_cons h1 (ob_cons (tabIs_self _) (ob_cons ?_ (ob_cons ?_ ob_nil)))))))))))))))))))))))))))))))))⟩
      · exact absurd hs (by simpa using h1)
      · exact absurd hs (by simpa using h1)
      · exact absurd hs (by simpa using h1)
      · exact absurd hs (by simpa using h1)
      · exact absurd hs (by simpa using h1)
      · exact absurd hs (by simpa using h1)
      · exact absurd hs (by simpa using h1)
      · exact absurd hs (by simpa using h1)
      · exact absurd hs (by simpa using h1)
      · exact absurd hs (by simpa using h1)
      · exact absurd hs (by simpa using h1)
      · exact absurd hs (by simpa using h1)
      · exact absurd hs (by simpa using h1)
      · exact absurd hs (by simpa using h1)
      · exact absurd hs (by simpa using h1)
      · exact absurd hs (by simpa using h1)
      · exact absurd hs (by simpa using h1)
      · exact absurd hs (by simpa using h1)
      · exact absurd hs (by simpa using h1)
      · exact absurd hs (by simpa using h1)
      · exact absurd hs (by simpa using h1)
    | false =>
      have g2 := of_decide_eq_false h2
      try simp only [Int.ofNat_eq_natCast, ge_iff_le, gt_iff_lt, Int.not_lt, Int.not_le] at g2
      refine ⟨2000, _, _, _, te7a_3 .., (ob_cons ?_ (ob_cons rfl (ob_cons (Nat.le_refl _) (ob_cons (.inl ⟨rfl, rfl⟩) (ob_cons ?_ (ob_cons ?_ (ob_cons ?_ (ob_cons ?_ (ob_cons ?_ (ob_cons ?_ (ob_cons ?_ (ob_cons ?_ (ob_cons ?_ (ob_cons rfl (ob_cons ?_ (ob_cons rfl (ob_cons rfl (ob_cons ?_ (ob_cons ?_ (ob_cons ?_ (ob_cons rfl (ob_cons rfl (ob_cons ?_ (ob_cons rfl (ob_cons ?_ (ob_cons ?_ (ob_cons ?_ (ob_cons ?_ (ob_cons h2 (ob_cons h1 (ob_cons (tabIs_self _) (ob_cons ?_ (ob_cons ?_ ob_nil)))))))))))))))))))))))))))))))))⟩
      · exact absurd hs (by simpa using h1)
      · exact absurd hs (by simpa using h1)
      · exact absurd hs (by simpa using h1)
      · exact absurd hs (by simpa using h1)
      · exact absurd hs (by simpa using h1)
      · exact absurd hs (by simpa using h1)
      · exact absurd hs (by simpa using h1)
      · exact absurd hs (by simpa using h1)
      · exact absurd hs (by simpa using h1)
      · exact absurd hs (by simpa using h1)
      · exact absurd hs (by simpa using h1)
      · exact absurd hs (by simpa using h1)
      · exact absurd hs (by simpa using h1)
      · exact absurd hs (by simpa using h1)
      · exact absurd hs (by simpa using h1)
      · exact absurd hs (by simpa using h1)
      · exact absurd hs (by simpa using h1)
      · exact absurd hs (by simpa using h1)
      · exact absurd hs (by simpa using h1)
      · exact absurd hs (by simpa using h1)
      · exact absurd hs (by simpa using h1)
theorem te7b_1 (n : Nat) (l : Nat) (f : Nat → Nat → AV) (h : Int) (sl : Int) (e : Enty) (S : MS) : callB EOr 2000 37 [AV.ptr 1 0 0, AV.ptr 3 0 0] (te7bH n l f h sl e S (tabF tab)) (te7bR n l f h sl e S (tabF tab)) [(5, Src.nm 2)] [Hint.b true] =
 some ([((0 : Int) == (0 : Int)) = decide ((teO n S (TO.mk (7 : Int) h sl e)).ln = (0 : Int)),
 true = true,
 (1 : Nat) ≤ (1 : Nat),
 tabF tab = tabF tab ∧ plainSh (List.map kindOfV tab) = true ∨ ∀ (i : Nat), i < 1 → rowOb (List.map kindOfV tab) 0 (tabF tab i) (tabF tab i),
 0 = (teO n S (TO.mk 7 h sl e)).ln,
 h = (teO n S (TO.mk 7 h sl e)).h,
 hSlot (mget S.M (key 9 sl 2)) = (teO n S (TO.mk 7 h sl e)).sl,
 e.slot = (teO n S (TO.mk 7 h sl e)).e.slot,
 e.gen = (teO n S (TO.mk 7 h sl e)).e.gen,
 e.mark = (teO n S (TO.mk 7 h sl e)).e.mark,
 e.birth = (teO n S (TO.mk 7 h sl e)).e.birth,
 e.epoch = (teO n S (TO.mk 7 h sl e)).e.epoch,
 e.era = (teO n S (TO.mk 7 h sl e)).e.era,
 (0 : Nat) = 0,
 n = teN n (TO.mk 7 h sl e),
 (none : Option Nat) = none,
 false = false,
 teN n (TO.mk 7 h sl e) ≤ l,
 yF (teE n (fun i => yOf (f i)) S (TO.mk 7 h sl e)) = f ∧ plainSh ySh = true ∨ ∀ (i : Nat), i < teN n (TO.mk 7 h sl e) → rowOb ySh 0 (f i) (yF (teE n (fun i => yOf (f i)) S (TO.mk 7 h sl e)) i),
 IntKind.i64.wrap (S.st + 1) = (teS S (TO.mk 7 h sl e)).st,
 (1 : Int) = 1,
 (9 : Int) = 9,
 sl = (teS S (TO.mk 7 h sl e)).L.a,
 (2 : Int) = 2,
 mget S.M (key 9 sl 2) = (teS S (TO.mk 7 h sl e)).L.w,
 mget S.M (key 9 sl 2) = (teS S (TO.mk 7 h sl e)).L.i,
 false = (teS S (TO.mk 7 h sl e)).L.d,
 ∀ (k : List Int), S.M k = (teS S (TO.mk 7 h sl e)).M k,
 decide (hSlot (mget S.M (key 9 sl 2)) < 0) = true,
 TabIs tab (tabF tab),
 0 ≤ mget S.M (key 9 sl 2),
 mget S.M (key 9 sl 2) < 18446744073709551616]) := by kernel_rfl
theorem te7b_2 (n : Nat) (l : Nat) (f : Nat → Nat → AV) (h : Int) (sl : Int) (e : Enty) (S : MS) : callB EOr 2000 37 [AV.ptr 1 0 0, AV.ptr 3 0 0] (te7bH n l f h sl e S (tabF tab)) (te7bR n l f h sl e S (tabF tab)) [(5, Src.nm 2)] [Hint.b false, Hint.b true] =
 some ([((0 : Int) == (0 : Int)) = decide ((teO n S (TO.mk (7 : Int) h sl e)).ln = (0 : Int)),
 true = true,
 (1 : Nat) ≤ (1 : Nat),
 tabF tab = tabF tab ∧ plainSh (List.map kindOfV tab) = true ∨ ∀ (i : Nat), i < 1 → rowOb (List.map kindOfV tab) 0 (tabF tab i) (tabF tab i),
 0 = (teO n S (TO.mk 7 h sl e)).ln,
 h = (teO n S (TO.mk 7 h sl e)).h,
 hSlot (mget S.M (key 9 sl 2)) = (teO n S (TO.mk 7 h sl e)).sl,
 e.slot = (teO n S (TO.mk 7 h sl e)).e.slot,
 e.gen = (teO n S (TO.mk 7 h sl e)).e.gen,
 e.mark = (teO n S (TO.mk 7 h sl e)).e.mark,
 e.birth = (teO n S (TO.mk 7 h sl e)).e.birth,
 e.epoch = (teO n S (TO.mk 7 h sl e)).e.epoch,
 e.era = (teO n S (TO.mk 7 h sl e)).e.era,
 (0 : Nat) = 0,
 n = teN n (TO.mk 7 h sl e),
 (none : Option Nat) = none,
 false = false,
 teN n (TO.mk 7 h sl e) ≤ l,
 yF (teE n (fun i => yOf (f i)) S (TO.mk 7 h sl e)) = f ∧ plainSh ySh = true ∨ ∀ (i : Nat), i < teN n (TO.mk 7 h sl e) → rowOb ySh 0 (f i) (yF (teE n (fun i => yOf (f i)) S (TO.mk 7 h sl e)) i),
 IntKind.i64.wrap (S.st + 1) = (teS S (TO.mk 7 h sl e)).st,
 (1 : Int) = 1,
 (9 : Int) = 9,
 sl = (teS S (TO.mk 7 h sl e)).L.a,
 (2 : Int) = 2,
 mget S.M (key 9 sl 2) = (teS S (TO.mk 7 h sl e)).L.w,
 mget S.M (key 9 sl 2) = (teS S (TO.mk 7 h sl e)).L.i,
 false = (teS S (TO.mk 7 h sl e)).L.d,
 ∀ (k : List Int), S.M k = (teS S (TO.mk 7 h sl e)).M k,
 decide (Int.ofNat n ≥ 256) = true,
 decide (hSlot (mget S.M (key 9 sl 2)) < 0) = false,
 TabIs tab (tabF tab),
 0 ≤ mget S.M (key 9 sl 2),
 mget S.M (key 9 sl 2) < 18446744073709551616]) := by kernel_rfl
theorem te7b_3 (n : Nat) (l : Nat) (f : Nat → Nat → AV) (h : Int) (sl : Int) (e : Enty) (S : MS) : callB EOr 2000 37 [AV.ptr 1 0 0, AV.ptr 3 0 0] (te7bH n l f h sl e S (tabF tab)) (te7bR n l f h sl e S (tabF tab)) [(5, Src.nm 2)] [Hint.b false, Hint.b false] =
 some ([((3 : Int) == (0 : Int)) = decide ((teO n S (TO.mk (7 : Int) h sl e)).ln = (0 : Int)),
 true = true,
 (1 : Nat) ≤ (1 : Nat),
 tabF tab = tabF tab ∧ plainSh (List.map kindOfV tab) = true ∨ ∀ (i : Nat), i < 1 → rowOb (List.map kindOfV tab) 0 (tabF tab i) (tabF tab i),
 3 = (teO n S (TO.mk 7 h sl e)).ln,
 h = (teO n S (TO.mk 7 h sl e)).h,
 hSlot (mget S.M (key 9 sl 2)) = (teO n S (TO.mk 7 h sl e)).sl,
 e.slot = (teO n S (TO.mk 7 h sl e)).e.slot,
 e.gen = (teO n S (TO.mk 7 h sl e)).e.gen,
 e.mark = (teO n S (TO.mk 7 h sl e)).e.mark,
 e.birth = (teO n S (TO.mk 7 h sl e)).e.birth,
 e.epoch = (teO n S (TO.mk 7 h sl e)).e.epoch,
 e.era = (teO n S (TO.mk 7 h sl e)).e.era,
 (0 : Nat) = 0,
 n = teN n (TO.mk 7 h sl e),
 (none : Option Nat) = none,
 false = false,
 teN n (TO.mk 7 h sl e) ≤ l,
 yF (teE n (fun i => yOf (f i)) S (TO.mk 7 h sl e)) = f ∧ plainSh ySh = true ∨ ∀ (i : Nat), i < teN n (TO.mk 7 h sl e) → rowOb ySh 0 (f i) (yF (teE n (fun i => yOf (f i)) S (TO.mk 7 h sl e)) i),
 IntKind.i64.wrap (S.st + 1) = (teS S (TO.mk 7 h sl e)).st,
 (1 : Int) = 1,
 (9 : Int) = 9,
 sl = (teS S (TO.mk 7 h sl e)).L.a,
 (2 : Int) = 2,
 mget S.M (key 9 sl 2) = (teS S (TO.mk 7 h sl e)).L.w,
 mget S.M (key 9 sl 2) = (teS S (TO.mk 7 h sl e)).L.i,
 false = (teS S (TO.mk 7 h sl e)).L.d,
 ∀ (k : List Int), S.M k = (teS S (TO.mk 7 h sl e)).M k,
 decide (Int.ofNat n ≥ 256) = false,
 decide (hSlot (mget S.M (key 9 sl 2)) < 0) = false,
 TabIs tab (tabF tab),
 0 ≤ mget S.M (key 9 sl 2),
 mget S.M (key 9 sl 2) < 18446744073709551616]) := by kernel_rfl
theorem te7b_loc (n : Nat) (l : Nat) (f : Nat → Nat → AV) (h : Int) (sl : Int) (e : Enty) (S : MS) (FT : Nat → Nat → AV) : LocOk Tryd.prog 37 [.ptr 1 0 0, .ptr 3 0 0] (te7bH n l f h sl e S FT) (te7bR n l f h sl e S FT) := by
  refine loc_of_call EOr_ok (fun hp => ?_)
  have hFT : FT = tabF tab := hp _ (List.mem_cons_self ..)
  have hu : U64 S := hp _ (List.mem_cons_of_mem _ (List.mem_cons_self ..))
  have hnl : n ≤ l ∧ n ≤ 1000000 := hp _ (List.mem_cons_of_mem _ (List.mem_cons_of_mem _ (List.mem_cons_self ..)))
  have hs : ¬ hSlot (mget S.M (key 9 sl 2)) < 0 := hp _ (List.mem_cons_of_mem _ (List.mem_cons_of_mem _ (List.mem_cons_of_mem _ (List.mem_cons_self ..))))
  have h256 : 256 ≤ n := hp _ (List.mem_cons_of_mem _ (List.mem_cons_of_mem _ (List.mem_cons_of_mem _ (List.mem_cons_of_mem _ (List.mem_cons_self ..)))))
  clear hp
  subst hFT
  have hnl1 := hnl.1
  have hnl2 := hnl.2
  have q := teO_7a (S := S) (sl := sl) (h := h) (e := e) (.inr h256)
  have hx1 : decide (Int.ofNat n ≥ 256) = true := decide_eq_true (by show (n : Int) ≥ 256; omega)
  cases h1 : (decide (hSlot (mget S.M (key 9 sl 2)) < 0)) with
  | true =>
    have g1 := of_decide_eq_true h1
    try simp only [Int.ofNat_eq_natCast, ge_iff_le, gt_iff_lt, Int.not_lt, Int.not_le] at g1
    refine ⟨2000, _, _, _, te7b_1 .., (ob_cons ?_ (ob_cons rfl (ob_cons (Nat.le_refl _) (ob_cons (.inl ⟨rfl, rfl⟩) (ob_cons ?_ (ob_cons ?_ (ob_cons ?_ (ob_cons ?_ (ob_cons ?_ (ob_cons ?_ (ob_cons ?_ (ob_cons ?_ (ob_cons ?_ (ob_cons rfl (ob_cons ?_ (ob_cons rfl (ob_cons rfl (ob_cons ?_ (ob_cons ?_ (ob_cons ?_ (ob_cons rfl (ob_cons rfl (ob_cons ?_ (ob_cons rfl (ob_cons ?_ (ob_cons ?_ (ob_cons ?_ (ob_cons ?_ (ob_cons h1 (ob_cons (tabIs_self _) (ob_cons ?_ (ob_cons ?_ ob_nil))))))))))))))))))))))))))))))))⟩
    · exact absurd hs (by simpa using h1)
    · exact absurd hs (by simpa using h1)
    · exact absurd hs (by simpa using h1)
    · exact absurd hs (by simpa using h1)
    · exact absurd hs (by simpa using h1)
    · exact absurd hs (by simpa using h1)
    · exact absurd hs (by simpa using h1)
    · exact absurd hs (by simpa using h1)
    · exact absurd hs (by simpa using h1)
    · exact absurd hs (by simpa using h1)
    · exact absurd hs (by simpa using h1)
    · exact absurd hs (by simpa using h1)
    · exact absurd hs (by simpa using h1)
    · exact absurd hs (by simpa using h1)
    · exact absurd hs (by simpa using h1)
    · exact absurd hs (by simpa using h1)
    · exact absurd hs (by simpa using h1)
    · exact absurd hs (by simpa using h1)
    · exact absurd hs (by simpa using h1)
    · exact absurd hs (by simpa using h1)
    · exact absurd hs (by simpa using h1)
  | false =>
    have g1 := of_decide_eq_false h1
    try simp only [Int.ofNat_eq_natCast, ge_iff_le, gt_iff_lt, Int.not_lt, Int.not_le] at g1
    cases h2 : (decide (Int.ofNat n ≥ 256)) with
    | true =>
      have g2 := of_decide_eq_true h2
      try simp only [Int.ofNat_eq_natCast, ge_iff_le, gt_iff_lt, Int.not_lt, Int.not_le] at g2
      refine ⟨2000, _, _, _, te7b_2 .., (ob_cons ?_ (ob_cons rfl (ob_cons (Nat.le_refl _) (ob_cons (.inl ⟨rfl, rfl⟩) (ob_cons ?_ (ob_cons ?_ (ob_cons ?_ (ob_cons ?_ (ob_cons ?_ (ob_cons ?_ (ob_cons ?_ (ob_cons ?_ (ob_cons ?_ (ob_cons rfl (ob_cons ?_ (ob_cons rfl (ob_cons rfl (ob_cons ?_ (ob_cons ?_ (ob_cons ?_ (ob_cons rfl (ob_cons rfl (ob_cons ?_ (ob_cons rfl (ob_cons ?_ (ob_cons ?_ (ob_cons ?_ (ob_cons ?_ (ob_cons h2 (ob_cons h1 (ob_cons (tabIs_self _) (ob_cons ?_ (ob_cons ?_ ob_nil)))))))))))))))))))))))))))))))))⟩
      · (rw [q]; rfl)
      · (rw [q]; done)
      · (rw [q]; done)
      · (rw [q]; done)
      · (rw [q]; done)
      · (rw [q]; done)
      · (rw [q]; done)
      · (rw [q]; done)
      · (rw [q]; done)
      · (rw [q]; done)
      · exact rfl
      · exact hnl.1
      · exact .inr (sameY_rows _)
      · exact rfl
      · exact rfl
      · exact rfl
      · exact rfl
      · exact rfl
      · exact fun _ => rfl
      · exact (hu _).1
      · exact (hu _).2
    | false =>
      have g2 := of_decide_eq_false h2
      try simp only [Int.ofNat_eq_natCast, ge_iff_le, gt_iff_lt, Int.not_lt, Int.not_le] at g2
      refine ⟨2000, _, _, _, te7b_3 .., (ob_cons ?_ (ob_cons rfl (ob_cons (Nat.le_refl _) (ob_cons (.inl ⟨rfl, rfl⟩) (ob_cons ?_ (ob_cons ?_ (ob_cons ?_ (ob_cons ?_ (ob_cons ?_ (ob_cons ?_ (ob_cons ?_ (ob_cons ?_ (ob_cons ?_ (ob_cons rfl (ob_cons ?_ (ob_cons rfl (ob_cons rfl (ob_cons ?_ (ob_cons ?_ (ob_cons ?_ (ob_cons rfl (ob_cons rfl (ob_cons ?_ (ob_cons rfl (ob_cons ?_ (ob_cons ?_ (ob_cons ?_ (ob_cons ?_ (ob_cons h2 (ob_cons h1 (ob_cons (tabIs_self _) (ob_cons ?_ (ob_cons ?_ ob_nil)))))))))))))))))))))))))))))))))⟩
      · (simp [Nat.blt_eq]; omega)
      · omega
      · (rw [q]; done)
      · (rw [q]; done)
      · (rw [q]; done)
      · (rw [q]; done)
      · (rw [q]; done)
      · (rw [q]; done)
      · (rw [q]; done)
      · (rw [q]; done)
      · exact rfl
      · exact hnl.1
      · exact .inr (sameY_rows _)
      · exact rfl
      · exact rfl
      · exact rfl
      · exact rfl
      · exact rfl
      · exact fun _ => rfl
      · exact (hu _).1
      · exact (hu _).2
theorem te7c_1 (n : Nat) (l : Nat) (f : Nat → Nat → AV) (h : Int) (sl : Int) (e : Enty) (S : MS) : callB EOr 2000 37 [AV.ptr 1 0 0, AV.ptr 3 0 0] (te7cH n l f h sl e S (tabF tab)) (te7cR n l f h sl e S (tabF tab)) [(5, Src.nm 2)] [Hint.b true] =
 some ([((0 : Int) == (0 : Int)) = decide ((teO n S (TO.mk (7 : Int) h sl e)).ln = (0 : Int)),
 true = true,
 (1 : Nat) ≤ (1 : Nat),
 tabF tab = tabF tab ∧ plainSh (List.map kindOfV tab) = true ∨ ∀ (i : Nat), i < 1 → rowOb (List.map kindOfV tab) 0 (tabF tab i) (tabF tab i),
 0 = (teO n S (TO.mk 7 h sl e)).ln,
 h = (teO n S (TO.mk 7 h sl e)).h,
 hSlot (mget S.M (key 9 sl 2)) = (teO n S (TO.mk 7 h sl e)).sl,
 e.slot = (teO n S (TO.mk 7 h sl e)).e.slot,
 e.gen = (teO n S (TO.mk 7 h sl e)).e.gen,
 e.mark = (teO n S (TO.mk 7 h sl e)).e.mark,
 e.birth = (teO n S (TO.mk 7 h sl e)).e.birth,
 e.epoch = (teO n S (TO.mk 7 h sl e)).e.epoch,
 e.era = (teO n S (TO.mk 7 h sl e)).e.era,
 (0 : Nat) = 0,
 n = teN n (TO.mk 7 h sl e),
 (none : Option Nat) = none,
 false = false,
 teN n (TO.mk 7 h sl e) ≤ l,
 yF (teE n (fun i => yOf (f i)) S (TO.mk 7 h sl e)) = f ∧ plainSh ySh = true ∨ ∀ (i : Nat), i < teN n (TO.mk 7 h sl e) → rowOb ySh 0 (f i) (yF (teE n (fun i => yOf (f i)) S (TO.mk 7 h sl e)) i),
 IntKind.i64.wrap (S.st + 1) = (teS S (TO.mk 7 h sl e)).st,
 (1 : Int) = 1,
 (9 : Int) = 9,
 sl = (teS S (TO.mk 7 h sl e)).L.a,
 (2 : Int) = 2,
 mget S.M (key 9 sl 2) = (teS S (TO.mk 7 h sl e)).L.w,
 mget S.M (key 9 sl 2) = (teS S (TO.mk 7 h sl e)).L.i,
 false = (teS S (TO.mk 7 h sl e)).L.d,
 ∀ (k : List Int), S.M k = (teS S (TO.mk 7 h sl e)).M k,
 decide (hSlot (mget S.M (key 9 sl 2)) < 0) = true,
 TabIs tab (tabF tab),
 0 ≤ mget S.M (key 9 sl 2),
 mget S.M (key 9 sl 2) < 18446744073709551616]) := by kernel_rfl
theorem te7c_2 (n : Nat) (l : Nat) (f : Nat → Nat → AV) (h : Int) (sl : Int) (e : Enty) (S : MS) : callB EOr 2000 37 [AV.ptr 1 0 0, AV.ptr 3 0 0] (te7cH n l f h sl e S (tabF tab)) (te7cR n l f h sl e S (tabF tab)) [(5, Src.nm 2)] [Hint.b false, Hint.b true] =
 some ([((0 : Int) == (0 : Int)) = decide ((teO n S (TO.mk (7 : Int) h sl e)).ln = (0 : Int)),
 true = true,
 (1 : Nat) ≤ (1 : Nat),
 tabF tab = tabF tab ∧ plainSh (List.map kindOfV tab) = true ∨ ∀ (i : Nat), i < 1 → rowOb (List.map kindOfV tab) 0 (tabF tab i) (tabF tab i),
 0 = (teO n S (TO.mk 7 h sl e)).ln,
 h = (teO n S (TO.mk 7 h sl e)).h,
 hSlot (mget S.M (key 9 sl 2)) = (teO n S (TO.mk 7 h sl e)).sl,
 e.slot = (teO n S (TO.mk 7 h sl e)).e.slot,
 e.gen = (teO n S (TO.mk 7 h sl e)).e.gen,
 e.mark = (teO n S (TO.mk 7 h sl e)).e.mark,
 e.birth = (teO n S (TO.mk 7 h sl e)).e.birth,
 e.epoch = (teO n S (TO.mk 7 h sl e)).e.epoch,
 e.era = (teO n S (TO.mk 7 h sl e)).e.era,
 (0 : Nat) = 0,
 n = teN n (TO.mk 7 h sl e),
 (none : Option Nat) = none,
 false = false,
 teN n (TO.mk 7 h sl e) ≤ l,
 yF (teE n (fun i => yOf (f i)) S (TO.mk 7 h sl e)) = f ∧ plainSh ySh = true ∨ ∀ (i : Nat), i < teN n (TO.mk 7 h sl e) → rowOb ySh 0 (f i) (yF (teE n (fun i => yOf (f i)) S (TO.mk 7 h sl e)) i),
 IntKind.i64.wrap (S.st + 1) = (teS S (TO.mk 7 h sl e)).st,
 (1 : Int) = 1,
 (9 : Int) = 9,
 sl = (teS S (TO.mk 7 h sl e)).L.a,
 (2 : Int) = 2,
 mget S.M (key 9 sl 2) = (teS S (TO.mk 7 h sl e)).L.w,
 mget S.M (key 9 sl 2) = (teS S (TO.mk 7 h sl e)).L.i,
 false = (teS S (TO.mk 7 h sl e)).L.d,
 ∀ (k : List Int), S.M k = (teS S (TO.mk 7 h sl e)).M k,
 decide (Int.ofNat n ≥ 256) = true,
 decide (hSlot (mget S.M (key 9 sl 2)) < 0) = false,
 TabIs tab (tabF tab),
 0 ≤ mget S.M (key 9 sl 2),
 mget S.M (key 9 sl 2) < 18446744073709551616]) := by kernel_rfl
theorem te7c_3 (n : Nat) (l : Nat) (f : Nat → Nat → AV) (h : Int) (sl : Int) (e : Enty) (S : MS) : callB EOr 2000 37 [AV.ptr 1 0 0, AV.ptr 3 0 0] (te7cH n l f h sl e S (tabF tab)) (te7cR n l f h sl e S (tabF tab)) [(5, Src.nm 2)] [Hint.b false, Hint.b false] =
 some ([((3 : Int) == (0 : Int)) = decide ((teO n S (TO.mk (7 : Int) h sl e)).ln = (0 : Int)),
 true = true,
 (1 : Nat) ≤ (1 : Nat),
 tabF tab = tabF tab ∧ plainSh (List.map kindOfV tab) = true ∨ ∀ (i : Nat), i < 1 → rowOb (List.map kindOfV tab) 0 (tabF tab i) (tabF tab i),
 3 = (teO n S (TO.mk 7 h sl e)).ln,
 h = (teO n S (TO.mk 7 h sl e)).h,
 hSlot (mget S.M (key 9 sl 2)) = (teO n S (TO.mk 7 h sl e)).sl,
 e.slot = (teO n S (TO.mk 7 h sl e)).e.slot,
 e.gen = (teO n S (TO.mk 7 h sl e)).e.gen,
 e.mark = (teO n S (TO.mk 7 h sl e)).e.mark,
 e.birth = (teO n S (TO.mk 7 h sl e)).e.birth,
 e.epoch = (teO n S (TO.mk 7 h sl e)).e.epoch,
 e.era = (teO n S (TO.mk 7 h sl e)).e.era,
 (0 : Nat) = 0,
 n = teN n (TO.mk 7 h sl e),
 (none : Option Nat) = none,
 false = false,
 teN n (TO.mk 7 h sl e) ≤ l,
 yF (teE n (fun i => yOf (f i)) S (TO.mk 7 h sl e)) = f ∧ plainSh ySh = true ∨ ∀ (i : Nat), i < teN n (TO.mk 7 h sl e) → rowOb ySh 0 (f i) (yF (teE n (fun i => yOf (f i)) S (TO.mk 7 h sl e)) i),
 IntKind.i64.wrap (S.st + 1) = (teS S (TO.mk 7 h sl e)).st,
 (1 : Int) = 1,
 (9 : Int) = 9,
 sl = (teS S (TO.mk 7 h sl e)).L.a,
 (2 : Int) = 2,
 mget S.M (key 9 sl 2) = (teS S (TO.mk 7 h sl e)).L.w,
 mget S.M (key 9 sl 2) = (teS S (TO.mk 7 h sl e)).L.i,
 false = (teS S (TO.mk 7 h sl e)).L.d,
 ∀ (k : List Int), S.M k = (teS S (TO.mk 7 h sl e)).M k,
 decide (Int.ofNat n ≥ 256) = false,
 decide (hSlot (mget S.M (key 9 sl 2)) < 0) = false,
 TabIs tab (tabF tab),
 0 ≤ mget S.M (key 9 sl 2),
 mget S.M (key 9 sl 2) < 18446744073709551616]) := by kernel_rfl
theorem te7c_loc (n : Nat) (l : Nat) (f : Nat → Nat → AV) (h : Int) (sl : Int) (e : Enty) (S : MS) (FT : Nat → Nat → AV) : LocOk Tryd.prog 37 [.ptr 1 0 0, .ptr 3 0 0] (te7cH n l f h sl e S FT) (te7cR n l f h sl e S FT) := by
  refine loc_of_call EOr_ok (fun hp => ?_)
  have hFT : FT = tabF tab := hp _ (List.mem_cons_self ..)
  have hu : U64 S := hp _ (List.mem_cons_of_mem _ (List.mem_cons_self ..))
  have hnl : n ≤ l ∧ n ≤ 1000000 := hp _ (List.mem_cons_of_mem _ (List.mem_cons_of_mem _ (List.mem_cons_self ..)))
  have hs : ¬ hSlot (mget S.M (key 9 sl 2)) < 0 := hp _ (List.mem_cons_of_mem _ (List.mem_cons_of_mem _ (List.mem_cons_of_mem _ (List.mem_cons_self ..))))
  have h256 : ¬ 256 ≤ n := hp _ (List.mem_cons_of_mem _ (List.mem_cons_of_mem _ (List.mem_cons_of_mem _ (List.mem_cons_of_mem _ (List.mem_cons_self ..)))))
  clear hp
  subst hFT
  have hnl1 := hnl.1
  have hnl2 := hnl.2
  have q := teO_7b (S := S) (sl := sl) (h := h) (e := e) (fun c => c.elim hs h256)
  have hx1 : decide (Int.ofNat n ≥ 256) = false := decide_eq_false (by show ¬ (n : Int) ≥ 256; omega)
  cases h1 : (decide (hSlot (mget S.M (key 9 sl 2)) < 0)) with
  | true =>
    have g1 := of_decide_eq_true h1
    try simp only [Int.ofNat_eq_natCast, ge_iff_le, gt_iff_lt, Int.not_lt, Int.not_le] at g1
    refine ⟨2000, _, _, _, te7c_1 .., (ob_cons ?_ (ob_cons rfl (ob_cons (Nat.le_refl _) (ob_cons (.inl ⟨rfl, rfl⟩) (ob_cons ?_ (ob_cons ?_ (ob_cons ?_ (ob_cons ?_ (ob_cons ?_ (ob_cons ?_ (ob_cons ?_ (ob_cons ?_ (ob_cons ?_ (ob_cons rfl (ob_cons ?_ (ob_cons rfl (ob_cons rfl (ob_cons ?_ (ob_cons ?_ (ob_cons ?_ (ob_cons rfl (ob_cons rfl (ob_cons ?_ (ob_cons rfl (ob_cons ?_ (ob_cons ?_ (ob_cons ?_ (ob_cons ?_ (ob_cons h1 (ob_cons (tabIs_self _) (ob_cons ?_ (ob_cons ?_ ob_nil))))))))))))))))))))))))))))))))⟩
    · exact absurd hs (by simpa using h1)
    · exact absurd hs (by simpa using h1)
    · exact absurd hs (by simpa using h1)
    · exact absurd hs (by simpa using h1)
    · exact absurd hs (by simpa using h1)
    · exact absurd hs (by simpa using h1)
    · exact absurd hs (by simpa using h1)
    · exact absurd hs (by simpa using h1)
    · exact absurd hs (by simpa using h1)
    · exact absurd hs (by simpa using h1)
    · exact absurd hs (by simpa using h1)
    · exact absurd hs (by simpa using h1)
    · exact absurd hs (by simpa using h1)
    · exact absurd hs (by simpa using h1)
    · exact absurd hs (by simpa using h1)
    · exact absurd hs (by simpa using h1)
    · exact absurd hs (by simpa using h1)
    · exact absurd hs (by simpa using h1)
    · exact absurd hs (by simpa using h1)
    · exact absurd hs (by simpa using h1)
    · exact absurd hs (by simpa using h1)
  | false =>
    have g1 := of_decide_eq_false h1
    try simp only [Int.ofNat_eq_natCast, ge_iff_le, gt_iff_lt, Int.not_lt, Int.not_le] at g1
    cases h2 : (decide (Int.ofNat n ≥ 256)) with
    | true =>
      have g2 := of_decide_eq_true h2
      try simp only [Int.ofNat_eq_natCast, ge_iff_le, gt_iff_lt, Int.not_lt, Int.not_le] at g2
      refine ⟨2000, _, _, _, te7c_2 .., (ob_cons ?_ (ob_cons rfl (ob_cons (Nat.le_refl _) (ob_cons (.inl ⟨rfl, rfl⟩) (ob_cons ?_ (ob_cons ?_ (ob_cons ?_ (ob_cons ?_ (ob_cons ?_ (ob_cons ?_ (ob_cons ?_ (ob_cons ?_ (ob_cons ?_ (ob_cons rfl (ob_cons ?_ (ob_cons rfl (ob_cons rfl (ob_cons ?_ (ob_cons ?_ (ob_cons ?_ (ob_cons rfl (ob_cons rfl (ob_cons ?_ (ob_cons rfl (ob_cons ?_ (ob_cons ?_ (ob_cons ?_ (ob_cons ?_ (ob_cons h2 (ob_cons h1 (ob_cons (tabIs_self _) (ob_cons ?_ (ob_cons ?_ ob_nil)))))))))))))))))))))))))))))))))⟩
      · (simp [Nat.blt_eq]; omega)
      · omega
      · (rw [q]; done)
      · (rw [q]; done)
      · (rw [q]; done)
      · (rw [q]; done)
      · (rw [q]; done)
      · (rw [q]; done)
      · (rw [q]; done)
      · (rw [q]; done)
      · exact rfl
      · exact hnl.1
      · exact .inr (sameY_rows _)
      · exact rfl
      · exact rfl
      · exact rfl
      · exact rfl
      · exact rfl
      · exact fun _ => rfl
      · exact (hu _).1
      · exact (hu _).2
    | false =>
      have g2 := of_decide_eq_false h2
      try simp only [Int.ofNat_eq_natCast, ge_iff_le, gt_iff_lt, Int.not_lt, Int.not_le] at g2
      refine ⟨2000, _, _, _, te7c_3 .., (ob_cons ?_ (ob_cons rfl (ob_cons (Nat.le_refl _) (ob_cons (.inl ⟨rfl, rfl⟩) (ob_cons ?_ (ob_cons ?_ (ob_cons ?_ (ob_cons ?_ (ob_cons ?_ (ob_cons ?_ (ob_cons ?_ (ob_cons ?_ (ob_cons ?_ (ob_cons rfl (ob_cons ?_ (ob_cons rfl (ob_cons rfl (ob_cons ?_ (ob_cons ?_ (ob_cons ?_ (ob_cons rfl (ob_cons rfl (ob_cons ?_ (ob_cons rfl (ob_cons ?_ (ob_cons ?_ (ob_cons ?_ (ob_cons ?_ (ob_cons h2 (ob_cons h1 (ob_cons (tabIs_self _) (ob_cons ?_ (ob_cons ?_ ob_nil)))))))))))))))))))))))))))))))))⟩
      · (rw [q]; rfl)
      · (rw [q]; done)
      · (rw [q]; done)
      · (rw [q]; done)
      · (rw [q]; done)
      · (rw [q]; done)
      · (rw [q]; done)
      · (rw [q]; done)
      · (rw [q]; done)
      · (rw [q]; done)
      · exact rfl
      · exact hnl.1
      · exact .inr (sameY_rows _)
      · exact rfl
      · exact rfl
      · exact rfl
      · exact rfl
      · exact rfl
      · exact fun _ => rfl
      · exact (hu _).1
      · exact (hu _).2
end Go.Proofs.YtmndhjodbnojdaaDoor
