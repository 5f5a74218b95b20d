/-
  Steps of a Pop, of a Push: line by line.
-/
import Derived.Test.YtljeiencnpnbkaaDoorUFsDef
set_option linter.unusedSimpArgs false
set_option linter.unusedVariables false
namespace Go.Proofs.YtljeiencnpnbkaaDoor
open Go.Ev
theorem pop0_1 (h : Int) (nx : Int) (sl : Int) (ok : Bool) (S : MS) : callB EFs 2000 104 [AV.ptr 1 0 0, AV.ptr 2 0 0] (pop0H h nx sl ok S (tabF tab)) (pop0R h nx sl ok S (tabF tab)) [] [] =
 some ([((0 : Int) == (0 : Int)) = decide ((0 : Int) = (0 : Int)),
 true = true,
 (1 : Nat) ≤ (1 : Nat),
 tabF tab = tabF tab ∧ plainSh (List.map kindOfV tab) = true ∨ ∀ (i : Nat), i < 1 → rowOb (List.map kindOfV tab) 0 (tabF tab i) (tabF tab i),
 (0 : Int) = 0,
 h = (popO S (PO.mk 0 h nx sl ok)).h,
 nx = (popO S (PO.mk 0 h nx sl ok)).nx,
 sl = (popO S (PO.mk 0 h nx sl ok)).sl,
 ok = (popO S (PO.mk 0 h nx sl ok)).ok,
 S.st = (popS S (PO.mk 0 h nx sl ok)).st,
 S.L.c = (popS S (PO.mk 0 h nx sl ok)).L.c,
 S.L.k = (popS S (PO.mk 0 h nx sl ok)).L.k,
 S.L.a = (popS S (PO.mk 0 h nx sl ok)).L.a,
 S.L.f = (popS S (PO.mk 0 h nx sl ok)).L.f,
 S.L.w = (popS S (PO.mk 0 h nx sl ok)).L.w,
 S.L.i = (popS S (PO.mk 0 h nx sl ok)).L.i,
 S.L.d = (popS S (PO.mk 0 h nx sl ok)).L.d,
 ∀ (k : List Int), S.M k = (popS S (PO.mk 0 h nx sl ok)).M k]) := by kernel_rfl
theorem pop0_loc (h : Int) (nx : Int) (sl : Int) (ok : Bool) (S : MS) (FT : Nat → Nat → AV) : LocOk Tryd.prog 104 [.ptr 1 0 0, .ptr 2 0 0] (pop0H h nx sl ok S FT) (pop0R h nx sl ok S FT) := by
  refine loc_of_call EFs_ok (fun hp => ?_)
  have hFT : FT = tabF tab := hp _ (List.mem_cons_self ..)
  have hu : U64 S := hp _ (List.mem_cons_of_mem _ (List.mem_cons_self ..))
  clear hp
  subst hFT
  have q : popO S ⟨0, h, nx, sl, ok⟩ = ⟨0, h, nx, sl, ok⟩ := rfl
  refine ⟨2000, _, _, _, pop0_1 .., (cj ⟨rfl, rfl, Nat.le_refl _, .inl ⟨rfl, rfl⟩, rfl, rfl, rfl, rfl, rfl, rfl, rfl, rfl, rfl, rfl, rfl, rfl, rfl, (fun _ => rfl), trivial⟩)⟩
theorem pop1a_1 (h : Int) (nx : Int) (sl : Int) (ok : Bool) (S : MS) : callB EFs 2000 104 [AV.ptr 1 0 0, AV.ptr 2 0 0] (pop1aH h nx sl ok S (tabF tab)) (pop1aR h nx sl ok S (tabF tab)) [] [Hint.b true] =
 some ([((0 : Int) == (0 : Int)) = decide ((popO S (PO.mk (1 : Int) h nx sl ok)).ln = (0 : Int)),
 true = true,
 (1 : Nat) ≤ (1 : Nat),
 tabF tab = tabF tab ∧ plainSh (List.map kindOfV tab) = true ∨ ∀ (i : Nat), i < 1 → rowOb (List.map kindOfV tab) 0 (tabF tab i) (tabF tab i),
 0 = (popO S (PO.mk 1 h nx sl ok)).ln,
 mget S.M (key 0 0 0) = (popO S (PO.mk 1 h nx sl ok)).h,
 nx = (popO S (PO.mk 1 h nx sl ok)).nx,
 sl = (popO S (PO.mk 1 h nx sl ok)).sl,
 ok = (popO S (PO.mk 1 h nx sl ok)).ok,
 IntKind.i64.wrap (S.st + 1) = (popS S (PO.mk 1 h nx sl ok)).st,
 (1 : Int) = 1,
 (0 : Int) = 0,
 (0 : Int) = 0,
 (0 : Int) = 0,
 mget S.M (key 0 0 0) = (popS S (PO.mk 1 h nx sl ok)).L.w,
 mget S.M (key 0 0 0) = (popS S (PO.mk 1 h nx sl ok)).L.i,
 false = (popS S (PO.mk 1 h nx sl ok)).L.d,
 ∀ (k : List Int), S.M k = (popS S (PO.mk 1 h nx sl ok)).M k,
 decide (hSlot (mget S.M (key 0 0 0)) < 0) = true,
 TabIs tab (tabF tab),
 0 ≤ mget S.M (key 0 0 0),
 mget S.M (key 0 0 0) < 18446744073709551616]) := by kernel_rfl
theorem pop1a_2 (h : Int) (nx : Int) (sl : Int) (ok : Bool) (S : MS) : callB EFs 2000 104 [AV.ptr 1 0 0, AV.ptr 2 0 0] (pop1aH h nx sl ok S (tabF tab)) (pop1aR h nx sl ok S (tabF tab)) [] [Hint.b false] =
 some ([((2 : Int) == (0 : Int)) = decide ((popO S (PO.mk (1 : Int) h nx sl ok)).ln = (0 : Int)),
 true = true,
 (1 : Nat) ≤ (1 : Nat),
 tabF tab = tabF tab ∧ plainSh (List.map kindOfV tab) = true ∨ ∀ (i : Nat), i < 1 → rowOb (List.map kindOfV tab) 0 (tabF tab i) (tabF tab i),
 2 = (popO S (PO.mk 1 h nx sl ok)).ln,
 mget S.M (key 0 0 0) = (popO S (PO.mk 1 h nx sl ok)).h,
 nx = (popO S (PO.mk 1 h nx sl ok)).nx,
 sl = (popO S (PO.mk 1 h nx sl ok)).sl,
 ok = (popO S (PO.mk 1 h nx sl ok)).ok,
 IntKind.i64.wrap (S.st + 1) = (popS S (PO.mk 1 h nx sl ok)).st,
 (1 : Int) = 1,
 (0 : Int) = 0,
 (0 : Int) = 0,
 (0 : Int) = 0,
 mget S.M (key 0 0 0) = (popS S (PO.mk 1 h nx sl ok)).L.w,
 mget S.M (key 0 0 0) = (popS S (PO.mk 1 h nx sl ok)).L.i,
 false = (popS S (PO.mk 1 h nx sl ok)).L.d,
 ∀ (k : List Int), S.M k = (popS S (PO.mk 1 h nx sl ok)).M k,
 decide (hSlot (mget S.M (key 0 0 0)) < 0) = false,
 TabIs tab (tabF tab),
 0 ≤ mget S.M (key 0 0 0),
 mget S.M (key 0 0 0) < 18446744073709551616]) := by kernel_rfl
theorem pop1a_loc (h : Int) (nx : Int) (sl : Int) (ok : Bool) (S : MS) (FT : Nat → Nat → AV) : LocOk Tryd.prog 104 [.ptr 1 0 0, .ptr 2 0 0] (pop1aH h nx sl ok S FT) (pop1aR h nx sl ok S FT) := by
  refine loc_of_call EFs_ok (fun hp => ?_)
  have hFT : FT = tabF tab := hp _ (List.mem_cons_self ..)
  have hu : U64 S := hp _ (List.mem_cons_of_mem _ (List.mem_cons_self ..))
  have hs : hSlot (mget S.M (key 0 0 0)) < 0 := hp _ (List.mem_cons_of_mem _ (List.mem_cons_of_mem _ (List.mem_cons_self ..)))
  clear hp
  subst hFT
  have q := popO_1a (h := h) (nx := nx) (sl := sl) (ok := ok) hs
  cases h1 : (decide (hSlot (mget S.M (key 0 0 0)) < 0)) with
  | true =>
    have g1 := of_decide_eq_true h1
    try simp only [Int.ofNat_eq_natCast, ge_iff_le, gt_iff_lt, Int.not_lt, Int.not_le] at g1
    refine ⟨2000, _, _, _, pop1a_1 .., (cj ⟨(by (rw [q]; rfl)), rfl, Nat.le_refl _, .inl ⟨rfl, rfl⟩, (by (rw [q]; done)), (by (rw [q]; done)), (by (rw [q]; done)), (by (rw [q]; done)), (by (rw [q]; done)), rfl, rfl, rfl, rfl, rfl, rfl, rfl, rfl, (fun _ => rfl), h1, tabIs_self _, (hu _).1, (hu _).2, trivial⟩)⟩
  | false =>
    have g1 := of_decide_eq_false h1
    try simp only [Int.ofNat_eq_natCast, ge_iff_le, gt_iff_lt, Int.not_lt, Int.not_le] at g1
    refine ⟨2000, _, _, _, pop1a_2 .., (cj ⟨(by omega), rfl, Nat.le_refl _, .inl ⟨rfl, rfl⟩, (by omega), (by (rw [q]; done)), (by (rw [q]; done)), (by (rw [q]; done)), (by (rw [q]; done)), rfl, rfl, rfl, rfl, rfl, rfl, rfl, rfl, (fun _ => rfl), h1, tabIs_self _, (hu _).1, (hu _).2, trivial⟩)⟩
theorem pop1b_1 (h : Int) (nx : Int) (sl : Int) (ok : Bool) (S : MS) : callB EFs 2000 104 [AV.ptr 1 0 0, AV.ptr 2 0 0] (pop1bH h nx sl ok S (tabF tab)) (pop1bR h nx sl ok S (tabF tab)) [] [Hint.b true] =
 some ([((0 : Int) == (0 : Int)) = decide ((popO S (PO.mk (1 : Int) h nx sl ok)).ln = (0 : Int)),
 true = true,
 (1 : Nat) ≤ (1 : Nat),
 tabF tab = tabF tab ∧ plainSh (List.map kindOfV tab) = true ∨ ∀ (i : Nat), i < 1 → rowOb (List.map kindOfV tab) 0 (tabF tab i) (tabF tab i),
 0 = (popO S (PO.mk 1 h nx sl ok)).ln,
 mget S.M (key 0 0 0) = (popO S (PO.mk 1 h nx sl ok)).h,
 nx = (popO S (PO.mk 1 h nx sl ok)).nx,
 sl = (popO S (PO.mk 1 h nx sl ok)).sl,
 ok = (popO S (PO.mk 1 h nx sl ok)).ok,
 IntKind.i64.wrap (S.st + 1) = (popS S (PO.mk 1 h nx sl ok)).st,
 (1 : Int) = 1,
 (0 : Int) = 0,
 (0 : Int) = 0,
 (0 : Int) = 0,
 mget S.M (key 0 0 0) = (popS S (PO.mk 1 h nx sl ok)).L.w,
 mget S.M (key 0 0 0) = (popS S (PO.mk 1 h nx sl ok)).L.i,
 false = (popS S (PO.mk 1 h nx sl ok)).L.d,
 ∀ (k : List Int), S.M k = (popS S (PO.mk 1 h nx sl ok)).M k,
 decide (hSlot (mget S.M (key 0 0 0)) < 0) = true,
 TabIs tab (tabF tab),
 0 ≤ mget S.M (key 0 0 0),
 mget S.M (key 0 0 0) < 18446744073709551616]) := by kernel_rfl
theorem pop1b_2 (h : Int) (nx : Int) (sl : Int) (ok : Bool) (S : MS) : callB EFs 2000 104 [AV.ptr 1 0 0, AV.ptr 2 0 0] (pop1bH h nx sl ok S (tabF tab)) (pop1bR h nx sl ok S (tabF tab)) [] [Hint.b false] =
 some ([((2 : Int) == (0 : Int)) = decide ((popO S (PO.mk (1 : Int) h nx sl ok)).ln = (0 : Int)),
 true = true,
 (1 : Nat) ≤ (1 : Nat),
 tabF tab = tabF tab ∧ plainSh (List.map kindOfV tab) = true ∨ ∀ (i : Nat), i < 1 → rowOb (List.map kindOfV tab) 0 (tabF tab i) (tabF tab i),
 2 = (popO S (PO.mk 1 h nx sl ok)).ln,
 mget S.M (key 0 0 0) = (popO S (PO.mk 1 h nx sl ok)).h,
 nx = (popO S (PO.mk 1 h nx sl ok)).nx,
 sl = (popO S (PO.mk 1 h nx sl ok)).sl,
 ok = (popO S (PO.mk 1 h nx sl ok)).ok,
 IntKind.i64.wrap (S.st + 1) = (popS S (PO.mk 1 h nx sl ok)).st,
 (1 : Int) = 1,
 (0 : Int) = 0,
 (0 : Int) = 0,
 (0 : Int) = 0,
 mget S.M (key 0 0 0) = (popS S (PO.mk 1 h nx sl ok)).L.w,
 mget S.M (key 0 0 0) = (popS S (PO.mk 1 h nx sl ok)).L.i,
 false = (popS S (PO.mk 1 h nx sl ok)).L.d,
 ∀ (k : List Int), S.M k = (popS S (PO.mk 1 h nx sl ok)).M k,
 decide (hSlot (mget S.M (key 0 0 0)) < 0) = false,
 TabIs tab (tabF tab),
 0 ≤ mget S.M (key 0 0 0),
 mget S.M (key 0 0 0) < 18446744073709551616]) := by kernel_rfl
theorem pop1b_loc (h : Int) (nx : Int) (sl : Int) (ok : Bool) (S : MS) (FT : Nat → Nat → AV) : LocOk Tryd.prog 104 [.ptr 1 0 0, .ptr 2 0 0] (pop1bH h nx sl ok S FT) (pop1bR h nx sl ok S FT) := by
  refine loc_of_call EFs_ok (fun hp => ?_)
  have hFT : FT = tabF tab := hp _ (List.mem_cons_self ..)
  have hu : U64 S := hp _ (List.mem_cons_of_mem _ (List.mem_cons_self ..))
  have hs : ¬ hSlot (mget S.M (key 0 0 0)) < 0 := hp _ (List.mem_cons_of_mem _ (List.mem_cons_of_mem _ (List.mem_cons_self ..)))
  clear hp
  subst hFT
  have q := popO_1b (h := h) (nx := nx) (sl := sl) (ok := ok) hs
  cases h1 : (decide (hSlot (mget S.M (key 0 0 0)) < 0)) with
  | true =>
    have g1 := of_decide_eq_true h1
    try simp only [Int.ofNat_eq_natCast, ge_iff_le, gt_iff_lt, Int.not_lt, Int.not_le] at g1
    refine ⟨2000, _, _, _, pop1b_1 .., (cj ⟨(by omega), rfl, Nat.le_refl _, .inl ⟨rfl, rfl⟩, (by omega), (by (rw [q]; done)), (by (rw [q]; done)), (by (rw [q]; done)), (by (rw [q]; done)), rfl, rfl, rfl, rfl, rfl, rfl, rfl, rfl, (fun _ => rfl), h1, tabIs_self _, (hu _).1, (hu _).2, trivial⟩)⟩
  | false =>
    have g1 := of_decide_eq_false h1
    try simp only [Int.ofNat_eq_natCast, ge_iff_le, gt_iff_lt, Int.not_lt, Int.not_le] at g1
    refine ⟨2000, _, _, _, pop1b_2 .., (cj ⟨(by (rw [q]; rfl)), rfl, Nat.le_refl _, .inl ⟨rfl, rfl⟩, (by (rw [q]; done)), (by (rw [q]; done)), (by (rw [q]; done)), (by (rw [q]; done)), (by (rw [q]; done)), rfl, rfl, rfl, rfl, rfl, rfl, rfl, rfl, (fun _ => rfl), h1, tabIs_self _, (hu _).1, (hu _).2, trivial⟩)⟩
theorem pop2_1 (h : Int) (nx : Int) (sl : Int) (ok : Bool) (S : MS) : callB EFs 2000 104 [AV.ptr 1 0 0, AV.ptr 2 0 0] (pop2H h nx sl ok S (tabF tab)) (pop2R h nx sl ok S (tabF tab)) [] [] =
 some ([((3 : Int) == (0 : Int)) = decide ((3 : Int) = (0 : Int)),
 true = true,
 (1 : Nat) ≤ (1 : Nat),
 tabF tab = tabF tab ∧ plainSh (List.map kindOfV tab) = true ∨ ∀ (i : Nat), i < 1 → rowOb (List.map kindOfV tab) 0 (tabF tab i) (tabF tab i),
 (3 : Int) = 3,
 h = (popO S (PO.mk 2 h nx sl ok)).h,
 hSlot (mget S.M (key 9 (hSlot h) 2)) = (popO S (PO.mk 2 h nx sl ok)).nx,
 sl = (popO S (PO.mk 2 h nx sl ok)).sl,
 ok = (popO S (PO.mk 2 h nx sl ok)).ok,
 IntKind.i64.wrap (S.st + 1) = (popS S (PO.mk 2 h nx sl ok)).st,
 (1 : Int) = 1,
 (9 : Int) = 9,
 hSlot h = (popS S (PO.mk 2 h nx sl ok)).L.a,
 (2 : Int) = 2,
 mget S.M (key 9 (hSlot h) 2) = (popS S (PO.mk 2 h nx sl ok)).L.w,
 mget S.M (key 9 (hSlot h) 2) = (popS S (PO.mk 2 h nx sl ok)).L.i,
 false = (popS S (PO.mk 2 h nx sl ok)).L.d,
 ∀ (k : List Int), S.M k = (popS S (PO.mk 2 h nx sl ok)).M k,
 TabIs tab (tabF tab),
 0 ≤ mget S.M (key 9 (hSlot h) 2),
 mget S.M (key 9 (hSlot h) 2) < 18446744073709551616,
 TabIs tab (tabF tab),
 0 ≤ h,
 h < 18446744073709551616]) := by kernel_rfl
theorem pop2_loc (h : Int) (nx : Int) (sl : Int) (ok : Bool) (S : MS) (FT : Nat → Nat → AV) : LocOk Tryd.prog 104 [.ptr 1 0 0, .ptr 2 0 0] (pop2H h nx sl ok S FT) (pop2R h nx sl ok S FT) := by
  refine loc_of_call EFs_ok (fun hp => ?_)
  have hFT : FT = tabF tab := hp _ (List.mem_cons_self ..)
  have hu : U64 S := hp _ (List.mem_cons_of_mem _ (List.mem_cons_self ..))
  have hh : R64 h := hp _ (List.mem_cons_of_mem _ (List.mem_cons_of_mem _ (List.mem_cons_self ..)))
  clear hp
  subst hFT
  refine ⟨2000, _, _, _, pop2_1 .., (cj ⟨rfl, rfl, Nat.le_refl _, .inl ⟨rfl, rfl⟩, rfl, rfl, rfl, rfl, rfl, rfl, rfl, rfl, rfl, rfl, rfl, rfl, rfl, (fun _ => rfl), tabIs_self _, (hu _).1, (hu _).2, tabIs_self _, hh.1, hh.2, trivial⟩)⟩
theorem pop3a_1 (h : Int) (nx : Int) (sl : Int) (ok : Bool) (S : MS) : callB EFs 2000 104 [AV.ptr 1 0 0, AV.ptr 2 0 0] (pop3aH h nx sl ok S (tabF tab)) (pop3aR h nx sl ok S (tabF tab)) [] [Hint.node [(8, [Hint.node [], Hint.b true])]] =
 some ([((1 : Int) == (0 : Int)) = decide ((popO S (PO.mk (3 : Int) h nx sl ok)).ln = (0 : Int)),
 true = true,
 (1 : Nat) ≤ (1 : Nat),
 tabF tab = tabF tab ∧ plainSh (List.map kindOfV tab) = true ∨ ∀ (i : Nat), i < 1 → rowOb (List.map kindOfV tab) 0 (tabF tab i) (tabF tab i),
 1 = (popO S (PO.mk 3 h nx sl ok)).ln,
 h = (popO S (PO.mk 3 h nx sl ok)).h,
 nx = (popO S (PO.mk 3 h nx sl ok)).nx,
 sl = (popO S (PO.mk 3 h nx sl ok)).sl,
 ok = (popO S (PO.mk 3 h nx sl ok)).ok,
 IntKind.i64.wrap (S.st + 1) = (popS S (PO.mk 3 h nx sl ok)).st,
 (3 : Int) = 3,
 (0 : Int) = 0,
 (0 : Int) = 0,
 (0 : Int) = 0,
 mget S.M (key 0 0 0) = (popS S (PO.mk 3 h nx sl ok)).L.w,
 casI S.M 0 0 0 h (hHead nx (IntKind.u64.wrap (hTag h + 1))) = (popS S (PO.mk 3 h nx sl ok)).L.i,
 casD S.M 0 0 0 h = (popS S (PO.mk 3 h nx sl ok)).L.d,
 ∀ (k : List Int), casM S.M 0 0 0 h (hHead nx (IntKind.u64.wrap (hTag h + 1))) k = (popS S (PO.mk 3 h nx sl ok)).M k,
 (!casD S.M 0 0 0 h) = true,
 (0 : Int) ≤ (0 : Int),
 TabIs tab (tabF tab),
 0 ≤ IntKind.u64.wrap (hTag h + 1),
 IntKind.u64.wrap (hTag h + 1) < 18446744073709551616,
 TabIs tab (tabF tab),
 0 ≤ h,
 h < 18446744073709551616]) := by kernel_rfl
theorem pop3a_2 (h : Int) (nx : Int) (sl : Int) (ok : Bool) (S : MS) : callB EFs 2000 104 [AV.ptr 1 0 0, AV.ptr 2 0 0] (pop3aH h nx sl ok S (tabF tab)) (pop3aR h nx sl ok S (tabF tab)) [] [Hint.node [(8, [Hint.node [], Hint.b false])]] =
 some ([((0 : Int) == (0 : Int)) = decide ((popO S (PO.mk (3 : Int) h nx sl ok)).ln = (0 : Int)),
 true = true,
 (1 : Nat) ≤ (1 : Nat),
 tabF tab = tabF tab ∧ plainSh (List.map kindOfV tab) = true ∨ ∀ (i : Nat), i < 1 → rowOb (List.map kindOfV tab) 0 (tabF tab i) (tabF tab i),
 0 = (popO S (PO.mk 3 h nx sl ok)).ln,
 h = (popO S (PO.mk 3 h nx sl ok)).h,
 nx = (popO S (PO.mk 3 h nx sl ok)).nx,
 hSlot h = (popO S (PO.mk 3 h nx sl ok)).sl,
 true = (popO S (PO.mk 3 h nx sl ok)).ok,
 IntKind.i64.wrap (S.st + 1) = (popS S (PO.mk 3 h nx sl ok)).st,
 (3 : Int) = 3,
 (0 : Int) = 0,
 (0 : Int) = 0,
 (0 : Int) = 0,
 mget S.M (key 0 0 0) = (popS S (PO.mk 3 h nx sl ok)).L.w,
 casI S.M 0 0 0 h (hHead nx (IntKind.u64.wrap (hTag h + 1))) = (popS S (PO.mk 3 h nx sl ok)).L.i,
 casD S.M 0 0 0 h = (popS S (PO.mk 3 h nx sl ok)).L.d,
 ∀ (k : List Int), casM S.M 0 0 0 h (hHead nx (IntKind.u64.wrap (hTag h + 1))) k = (popS S (PO.mk 3 h nx sl ok)).M k,
 TabIs tab (tabF tab),
 0 ≤ h,
 h < 18446744073709551616,
 (!casD S.M 0 0 0 h) = false,
 (0 : Int) ≤ (0 : Int),
 TabIs tab (tabF tab),
 0 ≤ IntKind.u64.wrap (hTag h + 1),
 IntKind.u64.wrap (hTag h + 1) < 18446744073709551616,
 TabIs tab (tabF tab),
 0 ≤ h,
 h < 18446744073709551616]) := by kernel_rfl
theorem pop3a_loc (h : Int) (nx : Int) (sl : Int) (ok : Bool) (S : MS) (FT : Nat → Nat → AV) : LocOk Tryd.prog 104 [.ptr 1 0 0, .ptr 2 0 0] (pop3aH h nx sl ok S FT) (pop3aR h nx sl ok S FT) := by
  refine loc_of_call EFs_ok (fun hp => ?_)
  have hFT : FT = tabF tab := hp _ (List.mem_cons_self ..)
  have hu : U64 S := hp _ (List.mem_cons_of_mem _ (List.mem_cons_self ..))
  have hh : R64 h := hp _ (List.mem_cons_of_mem _ (List.mem_cons_of_mem _ (List.mem_cons_self ..)))
  have hs : casD S.M 0 0 0 h = true := hp _ (List.mem_cons_of_mem _ (List.mem_cons_of_mem _ (List.mem_cons_of_mem _ (List.mem_cons_self ..))))
  clear hp
  subst hFT
  have q := popO_3a (nx := nx) (sl := sl) (ok := ok) hs
  cases h1 : (!casD S.M 0 0 0 h) with
  | true =>
    refine ⟨2000, _, _, _, pop3a_1 .., (cj ⟨(by exact absurd h1 (by rw [hs]; decide)), rfl, Nat.le_refl _, .inl ⟨rfl, rfl⟩, (by exact absurd h1 (by rw [hs]; decide)), (by exact absurd h1 (by rw [hs]; decide)), (by exact absurd h1 (by rw [hs]; decide)), (by exact absurd h1 (by rw [hs]; decide)), (by exact absurd h1 (by rw [hs]; decide)), (by exact absurd h1 (by rw [hs]; decide)), rfl, rfl, rfl, rfl, (by exact absurd h1 (by rw [hs]; decide)), (by exact absurd h1 (by rw [hs]; decide)), (by exact absurd h1 (by rw [hs]; decide)), (by exact absurd h1 (by rw [hs]; decide)), h1, Int.le_refl _, tabIs_self _, (by exact absurd h1 (by rw [hs]; decide)), (by exact absurd h1 (by rw [hs]; decide)), tabIs_self _, (by exact absurd h1 (by rw [hs]; decide)), (by exact absurd h1 (by rw [hs]; decide)), trivial⟩)⟩
  | false =>
    refine ⟨2000, _, _, _, pop3a_2 .., (cj ⟨(by (rw [q]; rfl)), rfl, Nat.le_refl _, .inl ⟨rfl, rfl⟩, (by (rw [q]; done)), (by (rw [q]; done)), (by (rw [q]; done)), (by (rw [q]; done)), (by (rw [q]; done)), rfl, rfl, rfl, rfl, rfl, rfl, rfl, rfl, (fun _ => rfl), tabIs_self _, hh.1, hh.2, h1, Int.le_refl _, tabIs_self _, (w64_r _).1, (w64_r _).2, tabIs_self _, hh.1, hh.2, trivial⟩)⟩
theorem pop3b_1 (h : Int) (nx : Int) (sl : Int) (ok : Bool) (S : MS) : callB EFs 2000 104 [AV.ptr 1 0 0, AV.ptr 2 0 0] (pop3bH h nx sl ok S (tabF tab)) (pop3bR h nx sl ok S (tabF tab)) [] [Hint.node [(8, [Hint.node [], Hint.b true])]] =
 some ([((1 : Int) == (0 : Int)) = decide ((popO S (PO.mk (3 : Int) h nx sl ok)).ln = (0 : Int)),
 true = true,
 (1 : Nat) ≤ (1 : Nat),
 tabF tab = tabF tab ∧ plainSh (List.map kindOfV tab) = true ∨ ∀ (i : Nat), i < 1 → rowOb (List.map kindOfV tab) 0 (tabF tab i) (tabF tab i),
 1 = (popO S (PO.mk 3 h nx sl ok)).ln,
 h = (popO S (PO.mk 3 h nx sl ok)).h,
 nx = (popO S (PO.mk 3 h nx sl ok)).nx,
 sl = (popO S (PO.mk 3 h nx sl ok)).sl,
 ok = (popO S (PO.mk 3 h nx sl ok)).ok,
 IntKind.i64.wrap (S.st + 1) = (popS S (PO.mk 3 h nx sl ok)).st,
 (3 : Int) = 3,
 (0 : Int) = 0,
 (0 : Int) = 0,
 (0 : Int) = 0,
 mget S.M (key 0 0 0) = (popS S (PO.mk 3 h nx sl ok)).L.w,
 casI S.M 0 0 0 h (hHead nx (IntKind.u64.wrap (hTag h + 1))) = (popS S (PO.mk 3 h nx sl ok)).L.i,
 casD S.M 0 0 0 h = (popS S (PO.mk 3 h nx sl ok)).L.d,
 ∀ (k : List Int), casM S.M 0 0 0 h (hHead nx (IntKind.u64.wrap (hTag h + 1))) k = (popS S (PO.mk 3 h nx sl ok)).M k,
 (!casD S.M 0 0 0 h) = true,
 (0 : Int) ≤ (0 : Int),
 TabIs tab (tabF tab),
 0 ≤ IntKind.u64.wrap (hTag h + 1),
 IntKind.u64.wrap (hTag h + 1) < 18446744073709551616,
 TabIs tab (tabF tab),
 0 ≤ h,
 h < 18446744073709551616]) := by kernel_rfl
theorem pop3b_2 (h : Int) (nx : Int) (sl : Int) (ok : Bool) (S : MS) : callB EFs 2000 104 [AV.ptr 1 0 0, AV.ptr 2 0 0] (pop3bH h nx sl ok S (tabF tab)) (pop3bR h nx sl ok S (tabF tab)) [] [Hint.node [(8, [Hint.node [], Hint.b false])]] =
 some ([((0 : Int) == (0 : Int)) = decide ((popO S (PO.mk (3 : Int) h nx sl ok)).ln = (0 : Int)),
 true = true,
 (1 : Nat) ≤ (1 : Nat),
 tabF tab = tabF tab ∧ plainSh (List.map kindOfV tab) = true ∨ ∀ (i : Nat), i < 1 → rowOb (List.map kindOfV tab) 0 (tabF tab i) (tabF tab i),
 0 = (popO S (PO.mk 3 h nx sl ok)).ln,
 h = (popO S (PO.mk 3 h nx sl ok)).h,
 nx = (popO S (PO.mk 3 h nx sl ok)).nx,
 hSlot h = (popO S (PO.mk 3 h nx sl ok)).sl,
 true = (popO S (PO.mk 3 h nx sl ok)).ok,
 IntKind.i64.wrap (S.st + 1) = (popS S (PO.mk 3 h nx sl ok)).st,
 (3 : Int) = 3,
 (0 : Int) = 0,
 (0 : Int) = 0,
 (0 : Int) = 0,
 mget S.M (key 0 0 0) = (popS S (PO.mk 3 h nx sl ok)).L.w,
 casI S.M 0 0 0 h (hHead nx (IntKind.u64.wrap (hTag h + 1))) = (popS S (PO.mk 3 h nx sl ok)).L.i,
 casD S.M 0 0 0 h = (popS S (PO.mk 3 h nx sl ok)).L.d,
 ∀ (k : List Int), casM S.M 0 0 0 h (hHead nx (IntKind.u64.wrap (hTag h + 1))) k = (popS S (PO.mk 3 h nx sl ok)).M k,
 TabIs tab (tabF tab),
 0 ≤ h,
 h < 18446744073709551616,
 (!casD S.M 0 0 0 h) = false,
 (0 : Int) ≤ (0 : Int),
 TabIs tab (tabF tab),
 0 ≤ IntKind.u64.wrap (hTag h + 1),
 IntKind.u64.wrap (hTag h + 1) < 18446744073709551616,
 TabIs tab (tabF tab),
 0 ≤ h,
 h < 18446744073709551616]) := by kernel_rfl
theorem pop3b_loc (h : Int) (nx : Int) (sl : Int) (ok : Bool) (S : MS) (FT : Nat → Nat → AV) : LocOk Tryd.prog 104 [.ptr 1 0 0, .ptr 2 0 0] (pop3bH h nx sl ok S FT) (pop3bR h nx sl ok S FT) := by
  refine loc_of_call EFs_ok (fun hp => ?_)
  have hFT : FT = tabF tab := hp _ (List.mem_cons_self ..)
  have hu : U64 S := hp _ (List.mem_cons_of_mem _ (List.mem_cons_self ..))
  have hh : R64 h := hp _ (List.mem_cons_of_mem _ (List.mem_cons_of_mem _ (List.mem_cons_self ..)))
  have hs : ¬ casD S.M 0 0 0 h = true := hp _ (List.mem_cons_of_mem _ (List.mem_cons_of_mem _ (List.mem_cons_of_mem _ (List.mem_cons_self ..))))
  clear hp
  subst hFT
  have q := popO_3b (nx := nx) (sl := sl) (ok := ok) hs
  have hsF : casD S.M 0 0 0 h = false := by simpa using hs
  cases h1 : (!casD S.M 0 0 0 h) with
  | true =>
    refine ⟨2000, _, _, _, pop3b_1 .., (cj ⟨(by (rw [q]; rfl)), rfl, Nat.le_refl _, .inl ⟨rfl, rfl⟩, (by (rw [q]; done)), (by (rw [q]; done)), (by (rw [q]; done)), (by (rw [q]; done)), (by (rw [q]; done)), rfl, rfl, rfl, rfl, rfl, rfl, rfl, rfl, (fun _ => rfl), h1, Int.le_refl _, tabIs_self _, (w64_r _).1, (w64_r _).2, tabIs_self _, hh.1, hh.2, trivial⟩)⟩
  | false =>
    refine ⟨2000, _, _, _, pop3b_2 .., (cj ⟨(by exact absurd h1 (by rw [hsF]; decide)), rfl, Nat.le_refl _, .inl ⟨rfl, rfl⟩, (by exact absurd h1 (by rw [hsF]; decide)), (by exact absurd h1 (by rw [hsF]; decide)), (by exact absurd h1 (by rw [hsF]; decide)), (by exact absurd h1 (by rw [hsF]; decide)), (by exact absurd h1 (by rw [hsF]; decide)), (by exact absurd h1 (by rw [hsF]; decide)), rfl, rfl, rfl, rfl, (by exact absurd h1 (by rw [hsF]; decide)), (by exact absurd h1 (by rw [hsF]; decide)), (by exact absurd h1 (by rw [hsF]; decide)), (by exact absurd h1 (by rw [hsF]; decide)), tabIs_self _, (by exact absurd h1 (by rw [hsF]; decide)), (by exact absurd h1 (by rw [hsF]; decide)), h1, Int.le_refl _, tabIs_self _, (by exact absurd h1 (by rw [hsF]; decide)), (by exact absurd h1 (by rw [hsF]; decide)), tabIs_self _, (by exact absurd h1 (by rw [hsF]; decide)), (by exact absurd h1 (by rw [hsF]; decide)), trivial⟩)⟩
theorem psh0_1 (h : Int) (sl : Int) (S : MS) : callB EFs 2000 102 [AV.ptr 1 0 0, AV.ptr 2 0 0] (psh0H h sl S (tabF tab)) (psh0R h sl S (tabF tab)) [] [] =
 some ([((0 : Int) == (0 : Int)) = decide ((0 : Int) = (0 : Int)),
 true = true,
 (1 : Nat) ≤ (1 : Nat),
 tabF tab = tabF tab ∧ plainSh (List.map kindOfV tab) = true ∨ ∀ (i : Nat), i < 1 → rowOb (List.map kindOfV tab) 0 (tabF tab i) (tabF tab i),
 (0 : Int) = 0,
 h = (pshO S (UO.mk 0 h sl)).h,
 sl = (pshO S (UO.mk 0 h sl)).sl,
 S.st = (pshS S (UO.mk 0 h sl)).st,
 S.L.c = (pshS S (UO.mk 0 h sl)).L.c,
 S.L.k = (pshS S (UO.mk 0 h sl)).L.k,
 S.L.a = (pshS S (UO.mk 0 h sl)).L.a,
 S.L.f = (pshS S (UO.mk 0 h sl)).L.f,
 S.L.w = (pshS S (UO.mk 0 h sl)).L.w,
 S.L.i = (pshS S (UO.mk 0 h sl)).L.i,
 S.L.d = (pshS S (UO.mk 0 h sl)).L.d,
 ∀ (k : List Int), S.M k = (pshS S (UO.mk 0 h sl)).M k]) := by kernel_rfl
theorem psh0_loc (h : Int) (sl : Int) (S : MS) (FT : Nat → Nat → AV) : LocOk Tryd.prog 102 [.ptr 1 0 0, .ptr 2 0 0] (psh0H h sl S FT) (psh0R h sl S FT) := by
  refine loc_of_call EFs_ok (fun hp => ?_)
  have hFT : FT = tabF tab := hp _ (List.mem_cons_self ..)
  have hu : U64 S := hp _ (List.mem_cons_of_mem _ (List.mem_cons_self ..))
  clear hp
  subst hFT
  refine ⟨2000, _, _, _, psh0_1 .., (cj ⟨rfl, rfl, Nat.le_refl _, .inl ⟨rfl, rfl⟩, rfl, rfl, rfl, rfl, rfl, rfl, rfl, rfl, rfl, rfl, rfl, (fun _ => rfl), trivial⟩)⟩
theorem psh1_1 (h : Int) (sl : Int) (S : MS) : callB EFs 2000 102 [AV.ptr 1 0 0, AV.ptr 2 0 0] (psh1H h sl S (tabF tab)) (psh1R h sl S (tabF tab)) [] [] =
 some ([((2 : Int) == (0 : Int)) = decide ((2 : Int) = (0 : Int)),
 true = true,
 (1 : Nat) ≤ (1 : Nat),
 tabF tab = tabF tab ∧ plainSh (List.map kindOfV tab) = true ∨ ∀ (i : Nat), i < 1 → rowOb (List.map kindOfV tab) 0 (tabF tab i) (tabF tab i),
 (2 : Int) = 2,
 mget S.M (key 0 0 0) = (pshO S (UO.mk 1 h sl)).h,
 sl = (pshO S (UO.mk 1 h sl)).sl,
 IntKind.i64.wrap (S.st + 1) = (pshS S (UO.mk 1 h sl)).st,
 (1 : Int) = 1,
 (0 : Int) = 0,
 (0 : Int) = 0,
 (0 : Int) = 0,
 mget S.M (key 0 0 0) = (pshS S (UO.mk 1 h sl)).L.w,
 mget S.M (key 0 0 0) = (pshS S (UO.mk 1 h sl)).L.i,
 false = (pshS S (UO.mk 1 h sl)).L.d,
 ∀ (k : List Int), S.M k = (pshS S (UO.mk 1 h sl)).M k,
 TabIs tab (tabF tab),
 0 ≤ mget S.M (key 0 0 0),
 mget S.M (key 0 0 0) < 18446744073709551616]) := by kernel_rfl
theorem psh1_loc (h : Int) (sl : Int) (S : MS) (FT : Nat → Nat → AV) : LocOk Tryd.prog 102 [.ptr 1 0 0, .ptr 2 0 0] (psh1H h sl S FT) (psh1R h sl S FT) := by
  refine loc_of_call EFs_ok (fun hp => ?_)
  have hFT : FT = tabF tab := hp _ (List.mem_cons_self ..)
  have hu : U64 S := hp _ (List.mem_cons_of_mem _ (List.mem_cons_self ..))
  clear hp
  subst hFT
  refine ⟨2000, _, _, _, psh1_1 .., (cj ⟨rfl, rfl, Nat.le_refl _, .inl ⟨rfl, rfl⟩, rfl, rfl, rfl, rfl, rfl, rfl, rfl, rfl, rfl, rfl, rfl, (fun _ => rfl), tabIs_self _, (hu _).1, (hu _).2, trivial⟩)⟩
theorem psh2_1 (h : Int) (sl : Int) (S : MS) : callB EFs 2000 102 [AV.ptr 1 0 0, AV.ptr 2 0 0] (psh2H h sl S (tabF tab)) (psh2R h sl S (tabF tab)) [] [] =
 some ([((3 : Int) == (0 : Int)) = decide ((3 : Int) = (0 : Int)),
 true = true,
 (1 : Nat) ≤ (1 : Nat),
 tabF tab = tabF tab ∧ plainSh (List.map kindOfV tab) = true ∨ ∀ (i : Nat), i < 1 → rowOb (List.map kindOfV tab) 0 (tabF tab i) (tabF tab i),
 (3 : Int) = 3,
 h = (pshO S (UO.mk 2 h sl)).h,
 sl = (pshO S (UO.mk 2 h sl)).sl,
 IntKind.i64.wrap (S.st + 1) = (pshS S (UO.mk 2 h sl)).st,
 (2 : Int) = 2,
 (9 : Int) = 9,
 sl = (pshS S (UO.mk 2 h sl)).L.a,
 (2 : Int) = 2,
 mget S.M (key 9 sl 2) = (pshS S (UO.mk 2 h sl)).L.w,
 memIs S.M 9 sl 2 (hHead (hSlot h) 0) = (pshS S (UO.mk 2 h sl)).L.i,
 false = (pshS S (UO.mk 2 h sl)).L.d,
 ∀ (k : List Int), memPut S.M 9 sl 2 (hHead (hSlot h) 0) k = (pshS S (UO.mk 2 h sl)).M k,
 (0 : Int) ≤ (9 : Int),
 TabIs tab (tabF tab),
 (0 : Int) ≤ (0 : Int),
 (0 : Int) < (18446744073709551616 : Int),
 TabIs tab (tabF tab),
 0 ≤ h,
 h < 18446744073709551616]) := by kernel_rfl
theorem psh2_loc (h : Int) (sl : Int) (S : MS) (FT : Nat → Nat → AV) : LocOk Tryd.prog 102 [.ptr 1 0 0, .ptr 2 0 0] (psh2H h sl S FT) (psh2R h sl S FT) := by
  refine loc_of_call EFs_ok (fun hp => ?_)
  have hFT : FT = tabF tab := hp _ (List.mem_cons_self ..)
  have hu : U64 S := hp _ (List.mem_cons_of_mem _ (List.mem_cons_self ..))
  have hh : R64 h := hp _ (List.mem_cons_of_mem _ (List.mem_cons_of_mem _ (List.mem_cons_self ..)))
  clear hp
  subst hFT
  refine ⟨2000, _, _, _, psh2_1 .., (cj ⟨rfl, rfl, Nat.le_refl _, .inl ⟨rfl, rfl⟩, rfl, rfl, rfl, rfl, rfl, rfl, rfl, rfl, rfl, rfl, rfl, (fun _ => rfl), (by decide), tabIs_self _, Int.le_refl _, (by decide), tabIs_self _, hh.1, hh.2, trivial⟩)⟩
theorem psh3a_1 (h : Int) (sl : Int) (S : MS) : callB EFs 2000 102 [AV.ptr 1 0 0, AV.ptr 2 0 0] (psh3aH h sl S (tabF tab)) (psh3aR h sl S (tabF tab)) [] [Hint.node [(8, [Hint.node [], Hint.b true])]] =
 some ([((1 : Int) == (0 : Int)) = decide ((pshO S (UO.mk (3 : Int) h sl)).ln = (0 : Int)),
 true = true,
 (1 : Nat) ≤ (1 : Nat),
 tabF tab = tabF tab ∧ plainSh (List.map kindOfV tab) = true ∨ ∀ (i : Nat), i < 1 → rowOb (List.map kindOfV tab) 0 (tabF tab i) (tabF tab i),
 1 = (pshO S (UO.mk 3 h sl)).ln,
 h = (pshO S (UO.mk 3 h sl)).h,
 sl = (pshO S (UO.mk 3 h sl)).sl,
 IntKind.i64.wrap (S.st + 1) = (pshS S (UO.mk 3 h sl)).st,
 (3 : Int) = 3,
 (0 : Int) = 0,
 (0 : Int) = 0,
 (0 : Int) = 0,
 mget S.M (key 0 0 0) = (pshS S (UO.mk 3 h sl)).L.w,
 casI S.M 0 0 0 h (hHead sl (IntKind.u64.wrap (hTag h + 1))) = (pshS S (UO.mk 3 h sl)).L.i,
 casD S.M 0 0 0 h = (pshS S (UO.mk 3 h sl)).L.d,
 ∀ (k : List Int), casM S.M 0 0 0 h (hHead sl (IntKind.u64.wrap (hTag h + 1))) k = (pshS S (UO.mk 3 h sl)).M k,
 (!casD S.M 0 0 0 h) = true,
 (0 : Int) ≤ (0 : Int),
 TabIs tab (tabF tab),
 0 ≤ IntKind.u64.wrap (hTag h + 1),
 IntKind.u64.wrap (hTag h + 1) < 18446744073709551616,
 TabIs tab (tabF tab),
 0 ≤ h,
 h < 18446744073709551616]) := by kernel_rfl
theorem psh3a_2 (h : Int) (sl : Int) (S : MS) : callB EFs 2000 102 [AV.ptr 1 0 0, AV.ptr 2 0 0] (psh3aH h sl S (tabF tab)) (psh3aR h sl S (tabF tab)) [] [Hint.node [(8, [Hint.node [], Hint.b false])]] =
 some ([((0 : Int) == (0 : Int)) = decide ((pshO S (UO.mk (3 : Int) h sl)).ln = (0 : Int)),
 true = true,
 (1 : Nat) ≤ (1 : Nat),
 tabF tab = tabF tab ∧ plainSh (List.map kindOfV tab) = true ∨ ∀ (i : Nat), i < 1 → rowOb (List.map kindOfV tab) 0 (tabF tab i) (tabF tab i),
 0 = (pshO S (UO.mk 3 h sl)).ln,
 h = (pshO S (UO.mk 3 h sl)).h,
 sl = (pshO S (UO.mk 3 h sl)).sl,
 IntKind.i64.wrap (S.st + 1) = (pshS S (UO.mk 3 h sl)).st,
 (3 : Int) = 3,
 (0 : Int) = 0,
 (0 : Int) = 0,
 (0 : Int) = 0,
 mget S.M (key 0 0 0) = (pshS S (UO.mk 3 h sl)).L.w,
 casI S.M 0 0 0 h (hHead sl (IntKind.u64.wrap (hTag h + 1))) = (pshS S (UO.mk 3 h sl)).L.i,
 casD S.M 0 0 0 h = (pshS S (UO.mk 3 h sl)).L.d,
 ∀ (k : List Int), casM S.M 0 0 0 h (hHead sl (IntKind.u64.wrap (hTag h + 1))) k = (pshS S (UO.mk 3 h sl)).M k,
 (!casD S.M 0 0 0 h) = false,
 (0 : Int) ≤ (0 : Int),
 TabIs tab (tabF tab),
 0 ≤ IntKind.u64.wrap (hTag h + 1),
 IntKind.u64.wrap (hTag h + 1) < 18446744073709551616,
 TabIs tab (tabF tab),
 0 ≤ h,
 h < 18446744073709551616]) := by kernel_rfl
theorem psh3a_loc (h : Int) (sl : Int) (S : MS) (FT : Nat → Nat → AV) : LocOk Tryd.prog 102 [.ptr 1 0 0, .ptr 2 0 0] (psh3aH h sl S FT) (psh3aR h sl S FT) := by
  refine loc_of_call EFs_ok (fun hp => ?_)
  have hFT : FT = tabF tab := hp _ (List.mem_cons_self ..)
  have hu : U64 S := hp _ (List.mem_cons_of_mem _ (List.mem_cons_self ..))
  have hh : R64 h := hp _ (List.mem_cons_of_mem _ (List.mem_cons_of_mem _ (List.mem_cons_self ..)))
  have hs : casD S.M 0 0 0 h = true := hp _ (List.mem_cons_of_mem _ (List.mem_cons_of_mem _ (List.mem_cons_of_mem _ (List.mem_cons_self ..))))
  clear hp
  subst hFT
  have q := pshO_3a (sl := sl) hs
  cases h1 : (!casD S.M 0 0 0 h) with
  | true =>
    refine ⟨2000, _, _, _, psh3a_1 .., (cj ⟨(by exact absurd h1 (by rw [hs]; decide)), rfl, Nat.le_refl _, .inl ⟨rfl, rfl⟩, (by exact absurd h1 (by rw [hs]; decide)), (by exact absurd h1 (by rw [hs]; decide)), (by exact absurd h1 (by rw [hs]; decide)), (by exact absurd h1 (by rw [hs]; decide)), rfl, rfl, rfl, rfl, (by exact absurd h1 (by rw [hs]; decide)), (by exact absurd h1 (by rw [hs]; decide)), (by exact absurd h1 (by rw [hs]; decide)), (by exact absurd h1 (by rw [hs]; decide)), h1, Int.le_refl _, tabIs_self _, (by exact absurd h1 (by rw [hs]; decide)), (by exact absurd h1 (by rw [hs]; decide)), tabIs_self _, (by exact absurd h1 (by rw [hs]; decide)), (by exact absurd h1 (by rw [hs]; decide)), trivial⟩)⟩
  | false =>
    refine ⟨2000, _, _, _, psh3a_2 .., (cj ⟨(by (rw [q]; rfl)), rfl, Nat.le_refl _, .inl ⟨rfl, rfl⟩, (by (rw [q]; done)), (by (rw [q]; done)), (by (rw [q]; done)), rfl, rfl, rfl, rfl, rfl, rfl, rfl, rfl, (fun _ => rfl), h1, Int.le_refl _, tabIs_self _, (w64_r _).1, (w64_r _).2, tabIs_self _, hh.1, hh.2, trivial⟩)⟩
theorem psh3b_1 (h : Int) (sl : Int) (S : MS) : callB EFs 2000 102 [AV.ptr 1 0 0, AV.ptr 2 0 0] (psh3bH h sl S (tabF tab)) (psh3bR h sl S (tabF tab)) [] [Hint.node [(8, [Hint.node [], Hint.b true])]] =
 some ([((1 : Int) == (0 : Int)) = decide ((pshO S (UO.mk (3 : Int) h sl)).ln = (0 : Int)),
 true = true,
 (1 : Nat) ≤ (1 : Nat),
 tabF tab = tabF tab ∧ plainSh (List.map kindOfV tab) = true ∨ ∀ (i : Nat), i < 1 → rowOb (List.map kindOfV tab) 0 (tabF tab i) (tabF tab i),
 1 = (pshO S (UO.mk 3 h sl)).ln,
 h = (pshO S (UO.mk 3 h sl)).h,
 sl = (pshO S (UO.mk 3 h sl)).sl,
 IntKind.i64.wrap (S.st + 1) = (pshS S (UO.mk 3 h sl)).st,
 (3 : Int) = 3,
 (0 : Int) = 0,
 (0 : Int) = 0,
 (0 : Int) = 0,
 mget S.M (key 0 0 0) = (pshS S (UO.mk 3 h sl)).L.w,
 casI S.M 0 0 0 h (hHead sl (IntKind.u64.wrap (hTag h + 1))) = (pshS S (UO.mk 3 h sl)).L.i,
 casD S.M 0 0 0 h = (pshS S (UO.mk 3 h sl)).L.d,
 ∀ (k : List Int), casM S.M 0 0 0 h (hHead sl (IntKind.u64.wrap (hTag h + 1))) k = (pshS S (UO.mk 3 h sl)).M k,
 (!casD S.M 0 0 0 h) = true,
 (0 : Int) ≤ (0 : Int),
 TabIs tab (tabF tab),
 0 ≤ IntKind.u64.wrap (hTag h + 1),
 IntKind.u64.wrap (hTag h + 1) < 18446744073709551616,
 TabIs tab (tabF tab),
 0 ≤ h,
 h < 18446744073709551616]) := by kernel_rfl
theorem psh3b_2 (h : Int) (sl : Int) (S : MS) : callB EFs 2000 102 [AV.ptr 1 0 0, AV.ptr 2 0 0] (psh3bH h sl S (tabF tab)) (psh3bR h sl S (tabF tab)) [] [Hint.node [(8, [Hint.node [], Hint.b false])]] =
 some ([((0 : Int) == (0 : Int)) = decide ((pshO S (UO.mk (3 : Int) h sl)).ln = (0 : Int)),
 true = true,
 (1 : Nat) ≤ (1 : Nat),
 tabF tab = tabF tab ∧ plainSh (List.map kindOfV tab) = true ∨ ∀ (i : Nat), i < 1 → rowOb (List.map kindOfV tab) 0 (tabF tab i) (tabF tab i),
 0 = (pshO S (UO.mk 3 h sl)).ln,
 h = (pshO S (UO.mk 3 h sl)).h,
 sl = (pshO S (UO.mk 3 h sl)).sl,
 IntKind.i64.wrap (S.st + 1) = (pshS S (UO.mk 3 h sl)).st,
 (3 : Int) = 3,
 (0 : Int) = 0,
 (0 : Int) = 0,
 (0 : Int) = 0,
 mget S.M (key 0 0 0) = (pshS S (UO.mk 3 h sl)).L.w,
 casI S.M 0 0 0 h (hHead sl (IntKind.u64.wrap (hTag h + 1))) = (pshS S (UO.mk 3 h sl)).L.i,
 casD S.M 0 0 0 h = (pshS S (UO.mk 3 h sl)).L.d,
 ∀ (k : List Int), casM S.M 0 0 0 h (hHead sl (IntKind.u64.wrap (hTag h + 1))) k = (pshS S (UO.mk 3 h sl)).M k,
 (!casD S.M 0 0 0 h) = false,
 (0 : Int) ≤ (0 : Int),
 TabIs tab (tabF tab),
 0 ≤ IntKind.u64.wrap (hTag h + 1),
 IntKind.u64.wrap (hTag h + 1) < 18446744073709551616,
 TabIs tab (tabF tab),
 0 ≤ h,
 h < 18446744073709551616]) := by kernel_rfl
theorem psh3b_loc (h : Int) (sl : Int) (S : MS) (FT : Nat → Nat → AV) : LocOk Tryd.prog 102 [.ptr 1 0 0, .ptr 2 0 0] (psh3bH h sl S FT) (psh3bR h sl S FT) := by
  refine loc_of_call EFs_ok (fun hp => ?_)
  have hFT : FT = tabF tab := hp _ (List.mem_cons_self ..)
  have hu : U64 S := hp _ (List.mem_cons_of_mem _ (List.mem_cons_self ..))
  have hh : R64 h := hp _ (List.mem_cons_of_mem _ (List.mem_cons_of_mem _ (List.mem_cons_self ..)))
  have hs : ¬ casD S.M 0 0 0 h = true := hp _ (List.mem_cons_of_mem _ (List.mem_cons_of_mem _ (List.mem_cons_of_mem _ (List.mem_cons_self ..))))
  clear hp
  subst hFT
  have q := pshO_3b (sl := sl) hs
  have hsF : casD S.M 0 0 0 h = false := by simpa using hs
  cases h1 : (!casD S.M 0 0 0 h) with
  | true =>
    refine ⟨2000, _, _, _, psh3b_1 .., (cj ⟨(by (rw [q]; rfl)), rfl, Nat.le_refl _, .inl ⟨rfl, rfl⟩, (by (rw [q]; done)), (by (rw [q]; done)), (by (rw [q]; done)), rfl, rfl, rfl, rfl, rfl, rfl, rfl, rfl, (fun _ => rfl), h1, Int.le_refl _, tabIs_self _, (w64_r _).1, (w64_r _).2, tabIs_self _, hh.1, hh.2, trivial⟩)⟩
  | false =>
    refine ⟨2000, _, _, _, psh3b_2 .., (cj ⟨(by exact absurd h1 (by rw [hsF]; decide)), rfl, Nat.le_refl _, .inl ⟨rfl, rfl⟩, (by exact absurd h1 (by rw [hsF]; decide)), (by exact absurd h1 (by rw [hsF]; decide)), (by exact absurd h1 (by rw [hsF]; decide)), (by exact absurd h1 (by rw [hsF]; decide)), rfl, rfl, rfl, rfl, (by exact absurd h1 (by rw [hsF]; decide)), (by exact absurd h1 (by rw [hsF]; decide)), (by exact absurd h1 (by rw [hsF]; decide)), (by exact absurd h1 (by rw [hsF]; decide)), h1, Int.le_refl _, tabIs_self _, (by exact absurd h1 (by rw [hsF]; decide)), (by exact absurd h1 (by rw [hsF]; decide)), tabIs_self _, (by exact absurd h1 (by rw [hsF]; decide)), (by exact absurd h1 (by rw [hsF]; decide)), trivial⟩)⟩
end Go.Proofs.YtljeiencnpnbkaaDoor
