/-
  Steps of a Leave: line by line.
-/
import Derived.Test.YtmndhjodbnojdaaDoorJTmDef
set_option linter.unusedSimpArgs false
set_option linter.unusedVariables false
namespace Go.Proofs.YtmndhjodbnojdaaDoor
open Go.Ev
theorem lv0_1 (bl : Int) (wd : Int) (e : Int) (th : Int) (S : MS) : callB ETl 2000 76 [AV.ptr 1 0 0, AV.ptr 2 0 0] (lv0H bl wd e th S (tabF tab)) (lv0R bl wd e th S (tabF tab)) [] [] =
 some ([((0 : Int) == (0 : Int)) = decide ((0 : Int) = (0 : Int)),
 true = true,
 (1 : Nat) ≤ (1 : Nat),
 tabF tab = tabF tab ∧ plainSh (List.map kindOfV tab) = true ∨ ∀ (i : Nat), i < 1 → rowOb (List.map kindOfV tab) 0 (tabF tab i) (tabF tab i),
 (0 : Int) = 0,
 bl = (lvO S (VO.mk 0 bl wd e th)).bl,
 wd = (lvO S (VO.mk 0 bl wd e th)).wd,
 e = (lvO S (VO.mk 0 bl wd e th)).e,
 th = (lvO S (VO.mk 0 bl wd e th)).th,
 S.st = (lvS S (VO.mk 0 bl wd e th)).st,
 S.L.c = (lvS S (VO.mk 0 bl wd e th)).L.c,
 S.L.k = (lvS S (VO.mk 0 bl wd e th)).L.k,
 S.L.a = (lvS S (VO.mk 0 bl wd e th)).L.a,
 S.L.f = (lvS S (VO.mk 0 bl wd e th)).L.f,
 S.L.w = (lvS S (VO.mk 0 bl wd e th)).L.w,
 S.L.i = (lvS S (VO.mk 0 bl wd e th)).L.i,
 S.L.d = (lvS S (VO.mk 0 bl wd e th)).L.d,
 ∀ (k : List Int), S.M k = (lvS S (VO.mk 0 bl wd e th)).M k]) := by kernel_rfl
theorem lv0_loc (bl : Int) (wd : Int) (e : Int) (th : Int) (S : MS) (FT : Nat → Nat → AV) : LocOk Tryd.prog 76 [.ptr 1 0 0, .ptr 2 0 0] (lv0H bl wd e th S FT) (lv0R bl wd e th S FT) := by
  refine loc_of_call ETl_ok (fun hp => ?_)
  have hFT : FT = tabF tab := hp _ (List.mem_cons_self ..)
  have hu : U64 S := hp _ (List.mem_cons_of_mem _ (List.mem_cons_self ..))
  clear hp
  subst hFT
  refine ⟨2000, _, _, _, lv0_1 .., (ob_cons ?_ (ob_cons rfl (ob_cons (Nat.le_refl _) (ob_cons (.inl ⟨rfl, rfl⟩) (ob_cons rfl (ob_cons ?_ (ob_cons ?_ (ob_cons ?_ (ob_cons ?_ (ob_cons ?_ (ob_cons ?_ (ob_cons ?_ (ob_cons ?_ (ob_cons ?_ (ob_cons ?_ (ob_cons ?_ (ob_cons ?_ (ob_cons ?_ ob_nil))))))))))))))))))⟩
  · exact rfl
  · exact rfl
  · exact rfl
  · exact rfl
  · exact rfl
  · exact rfl
  · exact rfl
  · exact rfl
  · exact rfl
  · exact rfl
  · exact rfl
  · exact rfl
  · exact rfl
  · exact fun _ => rfl
theorem lv1a_1 (bl : Int) (wd : Int) (e : Int) (th : Int) (S : MS) : callB ETl 2000 76 [AV.ptr 1 0 0, AV.ptr 2 0 0] (lv1aH bl wd e th S (tabF tab)) (lv1aR bl wd e th S (tabF tab)) [] [Hint.b true] =
 some ([((0 : Int) == (0 : Int)) = decide ((lvO S (VO.mk (1 : Int) bl wd e th)).ln = (0 : Int)),
 true = true,
 (1 : Nat) ≤ (1 : Nat),
 tabF tab = tabF tab ∧ plainSh (List.map kindOfV tab) = true ∨ ∀ (i : Nat), i < 1 → rowOb (List.map kindOfV tab) 0 (tabF tab i) (tabF tab i),
 0 = (lvO S (VO.mk 1 bl wd e th)).ln,
 bl = (lvO S (VO.mk 1 bl wd e th)).bl,
 wd = (lvO S (VO.mk 1 bl wd e th)).wd,
 6 = (lvO S (VO.mk 1 bl wd e th)).e,
 th = (lvO S (VO.mk 1 bl wd e th)).th,
 IntKind.i64.wrap (S.st + 1) = (lvS S (VO.mk 1 bl wd e th)).st,
 (1 : Int) = 1,
 (8 : Int) = 8,
 th = (lvS S (VO.mk 1 bl wd e th)).L.a,
 (0 : Int) = 0,
 mget S.M (key 8 th 0) = (lvS S (VO.mk 1 bl wd e th)).L.w,
 mget S.M (key 8 th 0) = (lvS S (VO.mk 1 bl wd e th)).L.i,
 false = (lvS S (VO.mk 1 bl wd e th)).L.d,
 ∀ (k : List Int), S.M k = (lvS S (VO.mk 1 bl wd e th)).M k,
 (mget S.M (key 8 th 0) == 0) = true]) := by kernel_rfl
theorem lv1a_loc (bl : Int) (wd : Int) (e : Int) (th : Int) (S : MS) (FT : Nat → Nat → AV) : LocOk Tryd.prog 76 [.ptr 1 0 0, .ptr 2 0 0] (lv1aH bl wd e th S FT) (lv1aR bl wd e th S FT) := by
  refine loc_of_call ETl_ok (fun hp => ?_)
  have hFT : FT = tabF tab := hp _ (List.mem_cons_self ..)
  have hu : U64 S := hp _ (List.mem_cons_of_mem _ (List.mem_cons_self ..))
  have hs : mget S.M (key 8 th 0) = 0 := hp _ (List.mem_cons_of_mem _ (List.mem_cons_of_mem _ (List.mem_cons_self ..)))
  clear hp
  subst hFT
  have q : lvO S ⟨1, bl, wd, e, th⟩ = ⟨0, bl, wd, 6, th⟩ := if_pos hs
  have t1 : (mget S.M (key 8 th 0) == 0) = true := eqT hs
  refine ⟨2000, _, _, _, lv1a_1 .., (ob_cons ?_ (ob_cons rfl (ob_cons (Nat.le_refl _) (ob_cons (.inl ⟨rfl, rfl⟩) (ob_cons ?_ (ob_cons ?_ (ob_cons ?_ (ob_cons ?_ (ob_cons ?_ (ob_cons ?_ (ob_cons rfl (ob_cons rfl (ob_cons ?_ (ob_cons rfl (ob_cons ?_ (ob_cons ?_ (ob_cons ?_ (ob_cons ?_ (ob_cons ?_ ob_nil)))))))))))))))))))⟩
  · (rw [q]; rfl)
  · (rw [q]; done)
  · (rw [q]; done)
  · (rw [q]; done)
  · (rw [q]; done)
  · (rw [q]; done)
  · exact rfl
  · exact rfl
  · exact rfl
  · exact rfl
  · exact rfl
  · exact fun _ => rfl
  · with_reducible assumption
theorem lv1b_1 (bl : Int) (wd : Int) (e : Int) (th : Int) (S : MS) : callB ETl 2000 76 [AV.ptr 1 0 0, AV.ptr 2 0 0] (lv1bH bl wd e th S (tabF tab)) (lv1bR bl wd e th S (tabF tab)) [] [Hint.b false] =
 some ([((2 : Int) == (0 : Int)) = decide ((lvO S (VO.mk (1 : Int) bl wd e th)).ln = (0 : Int)),
 true = true,
 (1 : Nat) ≤ (1 : Nat),
 tabF tab = tabF tab ∧ plainSh (List.map kindOfV tab) = true ∨ ∀ (i : Nat), i < 1 → rowOb (List.map kindOfV tab) 0 (tabF tab i) (tabF tab i),
 2 = (lvO S (VO.mk 1 bl wd e th)).ln,
 bl = (lvO S (VO.mk 1 bl wd e th)).bl,
 wd = (lvO S (VO.mk 1 bl wd e th)).wd,
 e = (lvO S (VO.mk 1 bl wd e th)).e,
 th = (lvO S (VO.mk 1 bl wd e th)).th,
 IntKind.i64.wrap (S.st + 1) = (lvS S (VO.mk 1 bl wd e th)).st,
 (1 : Int) = 1,
 (8 : Int) = 8,
 th = (lvS S (VO.mk 1 bl wd e th)).L.a,
 (0 : Int) = 0,
 mget S.M (key 8 th 0) = (lvS S (VO.mk 1 bl wd e th)).L.w,
 mget S.M (key 8 th 0) = (lvS S (VO.mk 1 bl wd e th)).L.i,
 false = (lvS S (VO.mk 1 bl wd e th)).L.d,
 ∀ (k : List Int), S.M k = (lvS S (VO.mk 1 bl wd e th)).M k,
 (mget S.M (key 8 th 0) == 0) = false]) := by kernel_rfl
theorem lv1b_loc (bl : Int) (wd : Int) (e : Int) (th : Int) (S : MS) (FT : Nat → Nat → AV) : LocOk Tryd.prog 76 [.ptr 1 0 0, .ptr 2 0 0] (lv1bH bl wd e th S FT) (lv1bR bl wd e th S FT) := by
  refine loc_of_call ETl_ok (fun hp => ?_)
  have hFT : FT = tabF tab := hp _ (List.mem_cons_self ..)
  have hu : U64 S := hp _ (List.mem_cons_of_mem _ (List.mem_cons_self ..))
  have hs : ¬ mget S.M (key 8 th 0) = 0 := hp _ (List.mem_cons_of_mem _ (List.mem_cons_of_mem _ (List.mem_cons_self ..)))
  clear hp
  subst hFT
  have q : lvO S ⟨1, bl, wd, e, th⟩ = ⟨2, bl, wd, e, th⟩ := if_neg hs
  have t1 : (mget S.M (key 8 th 0) == 0) = false := eqF hs
  refine ⟨2000, _, _, _, lv1b_1 .., (ob_cons ?_ (ob_cons rfl (ob_cons (Nat.le_refl _) (ob_cons (.inl ⟨rfl, rfl⟩) (ob_cons ?_ (ob_cons ?_ (ob_cons ?_ (ob_cons ?_ (ob_cons ?_ (ob_cons ?_ (ob_cons rfl (ob_cons rfl (ob_cons ?_ (ob_cons rfl (ob_cons ?_ (ob_cons ?_ (ob_cons ?_ (ob_cons ?_ (ob_cons ?_ ob_nil)))))))))))))))))))⟩
  · (rw [q]; rfl)
  · (rw [q]; done)
  · (rw [q]; done)
  · (rw [q]; done)
  · (rw [q]; done)
  · (rw [q]; done)
  · exact rfl
  · exact rfl
  · exact rfl
  · exact rfl
  · exact rfl
  · exact fun _ => rfl
  · with_reducible assumption
theorem lv2a_1 (bl : Int) (wd : Int) (e : Int) (th : Int) (S : MS) : callB ETl 2000 76 [AV.ptr 1 0 0, AV.ptr 2 0 0] (lv2aH bl wd e th S (tabF tab)) (lv2aR bl wd e th S (tabF tab)) [] [Hint.b false] =
 some ([((3 : Int) == (0 : Int)) = decide ((lvO S (VO.mk (2 : Int) bl wd e th)).ln = (0 : Int)),
 true = true,
 (1 : Nat) ≤ (1 : Nat),
 tabF tab = tabF tab ∧ plainSh (List.map kindOfV tab) = true ∨ ∀ (i : Nat), i < 1 → rowOb (List.map kindOfV tab) 0 (tabF tab i) (tabF tab i),
 3 = (lvO S (VO.mk 2 bl wd e th)).ln,
 bl = (lvO S (VO.mk 2 bl wd e th)).bl,
 wd = (lvO S (VO.mk 2 bl wd e th)).wd,
 e = (lvO S (VO.mk 2 bl wd e th)).e,
 th = (lvO S (VO.mk 2 bl wd e th)).th,
 IntKind.i64.wrap (S.st + 1) = (lvS S (VO.mk 2 bl wd e th)).st,
 (1 : Int) = 1,
 (8 : Int) = 8,
 th = (lvS S (VO.mk 2 bl wd e th)).L.a,
 (1 : Int) = 1,
 mget S.M (key 8 th 1) = (lvS S (VO.mk 2 bl wd e th)).L.w,
 mget S.M (key 8 th 1) = (lvS S (VO.mk 2 bl wd e th)).L.i,
 false = (lvS S (VO.mk 2 bl wd e th)).L.d,
 ∀ (k : List Int), S.M k = (lvS S (VO.mk 2 bl wd e th)).M k,
 (mget S.M (key 8 th 1) != 0) = false]) := by kernel_rfl
theorem lv2a_loc (bl : Int) (wd : Int) (e : Int) (th : Int) (S : MS) (FT : Nat → Nat → AV) : LocOk Tryd.prog 76 [.ptr 1 0 0, .ptr 2 0 0] (lv2aH bl wd e th S FT) (lv2aR bl wd e th S FT) := by
  refine loc_of_call ETl_ok (fun hp => ?_)
  have hFT : FT = tabF tab := hp _ (List.mem_cons_self ..)
  have hu : U64 S := hp _ (List.mem_cons_of_mem _ (List.mem_cons_self ..))
  have hs : mget S.M (key 8 th 1) = 0 := hp _ (List.mem_cons_of_mem _ (List.mem_cons_of_mem _ (List.mem_cons_self ..)))
  clear hp
  subst hFT
  have q : lvO S ⟨2, bl, wd, e, th⟩ = ⟨3, bl, wd, e, th⟩ := if_pos hs
  have t1 : (mget S.M (key 8 th 1) != 0) = false := bne_f hs
  refine ⟨2000, _, _, _, lv2a_1 .., (ob_cons ?_ (ob_cons rfl (ob_cons (Nat.le_refl _) (ob_cons (.inl ⟨rfl, rfl⟩) (ob_cons ?_ (ob_cons ?_ (ob_cons ?_ (ob_cons ?_ (ob_cons ?_ (ob_cons ?_ (ob_cons rfl (ob_cons rfl (ob_cons ?_ (ob_cons rfl (ob_cons ?_ (ob_cons ?_ (ob_cons ?_ (ob_cons ?_ (ob_cons ?_ ob_nil)))))))))))))))))))⟩
  · (rw [q]; rfl)
  · (rw [q]; done)
  · (rw [q]; done)
  · (rw [q]; done)
  · (rw [q]; done)
  · (rw [q]; done)
  · exact rfl
  · exact rfl
  · exact rfl
  · exact rfl
  · exact rfl
  · exact fun _ => rfl
  · with_reducible assumption
theorem lv2b_1 (bl : Int) (wd : Int) (e : Int) (th : Int) (S : MS) : callB ETl 2000 76 [AV.ptr 1 0 0, AV.ptr 2 0 0] (lv2bH bl wd e th S (tabF tab)) (lv2bR bl wd e th S (tabF tab)) [] [Hint.b true] =
 some ([((0 : Int) == (0 : Int)) = decide ((lvO S (VO.mk (2 : Int) bl wd e th)).ln = (0 : Int)),
 true = true,
 (1 : Nat) ≤ (1 : Nat),
 tabF tab = tabF tab ∧ plainSh (List.map kindOfV tab) = true ∨ ∀ (i : Nat), i < 1 → rowOb (List.map kindOfV tab) 0 (tabF tab i) (tabF tab i),
 0 = (lvO S (VO.mk 2 bl wd e th)).ln,
 bl = (lvO S (VO.mk 2 bl wd e th)).bl,
 wd = (lvO S (VO.mk 2 bl wd e th)).wd,
 4 = (lvO S (VO.mk 2 bl wd e th)).e,
 th = (lvO S (VO.mk 2 bl wd e th)).th,
 IntKind.i64.wrap (S.st + 1) = (lvS S (VO.mk 2 bl wd e th)).st,
 (1 : Int) = 1,
 (8 : Int) = 8,
 th = (lvS S (VO.mk 2 bl wd e th)).L.a,
 (1 : Int) = 1,
 mget S.M (key 8 th 1) = (lvS S (VO.mk 2 bl wd e th)).L.w,
 mget S.M (key 8 th 1) = (lvS S (VO.mk 2 bl wd e th)).L.i,
 false = (lvS S (VO.mk 2 bl wd e th)).L.d,
 ∀ (k : List Int), S.M k = (lvS S (VO.mk 2 bl wd e th)).M k,
 (mget S.M (key 8 th 1) != 0) = true]) := by kernel_rfl
theorem lv2b_loc (bl : Int) (wd : Int) (e : Int) (th : Int) (S : MS) (FT : Nat → Nat → AV) : LocOk Tryd.prog 76 [.ptr 1 0 0, .ptr 2 0 0] (lv2bH bl wd e th S FT) (lv2bR bl wd e th S FT) := by
  refine loc_of_call ETl_ok (fun hp => ?_)
  have hFT : FT = tabF tab := hp _ (List.mem_cons_self ..)
  have hu : U64 S := hp _ (List.mem_cons_of_mem _ (List.mem_cons_self ..))
  have hs : ¬ mget S.M (key 8 th 1) = 0 := hp _ (List.mem_cons_of_mem _ (List.mem_cons_of_mem _ (List.mem_cons_self ..)))
  clear hp
  subst hFT
  have q : lvO S ⟨2, bl, wd, e, th⟩ = ⟨0, bl, wd, 4, th⟩ := if_neg hs
  have t1 : (mget S.M (key 8 th 1) != 0) = true := by simpa using hs
  refine ⟨2000, _, _, _, lv2b_1 .., (ob_cons ?_ (ob_cons rfl (ob_cons (Nat.le_refl _) (ob_cons (.inl ⟨rfl, rfl⟩) (ob_cons ?_ (ob_cons ?_ (ob_cons ?_ (ob_cons ?_ (ob_cons ?_ (ob_cons ?_ (ob_cons rfl (ob_cons rfl (ob_cons ?_ (ob_cons rfl (ob_cons ?_ (ob_cons ?_ (ob_cons ?_ (ob_cons ?_ (ob_cons ?_ ob_nil)))))))))))))))))))⟩
  · (rw [q]; rfl)
  · (rw [q]; done)
  · (rw [q]; done)
  · (rw [q]; done)
  · (rw [q]; done)
  · (rw [q]; done)
  · exact rfl
  · exact rfl
  · exact rfl
  · exact rfl
  · exact rfl
  · exact fun _ => rfl
  · with_reducible assumption
theorem lv3_1 (bl : Int) (wd : Int) (e : Int) (th : Int) (S : MS) : callB ETl 2000 76 [AV.ptr 1 0 0, AV.ptr 2 0 0] (lv3H bl wd e th S (tabF tab)) (lv3R bl wd e th S (tabF tab)) [] [] =
 some ([((4 : Int) == (0 : Int)) = decide ((4 : Int) = (0 : Int)),
 true = true,
 (1 : Nat) ≤ (1 : Nat),
 tabF tab = tabF tab ∧ plainSh (List.map kindOfV tab) = true ∨ ∀ (i : Nat), i < 1 → rowOb (List.map kindOfV tab) 0 (tabF tab i) (tabF tab i),
 (4 : Int) = 4,
 bl = (lvO S (VO.mk 3 bl wd e th)).bl,
 wd = (lvO S (VO.mk 3 bl wd e th)).wd,
 e = (lvO S (VO.mk 3 bl wd e th)).e,
 th = (lvO S (VO.mk 3 bl wd e th)).th,
 IntKind.i64.wrap (S.st + 1) = (lvS S (VO.mk 3 bl wd e th)).st,
 (2 : Int) = 2,
 (8 : Int) = 8,
 th = (lvS S (VO.mk 3 bl wd e th)).L.a,
 (6 : Int) = 6,
 mget S.M (key 8 th 6) = (lvS S (VO.mk 3 bl wd e th)).L.w,
 memIs S.M 8 th 6 0 = (lvS S (VO.mk 3 bl wd e th)).L.i,
 false = (lvS S (VO.mk 3 bl wd e th)).L.d,
 ∀ (k : List Int), memPut S.M 8 th 6 0 k = (lvS S (VO.mk 3 bl wd e th)).M k,
 (0 : Int) ≤ (8 : Int)]) := by kernel_rfl
theorem lv3_loc (bl : Int) (wd : Int) (e : Int) (th : Int) (S : MS) (FT : Nat → Nat → AV) : LocOk Tryd.prog 76 [.ptr 1 0 0, .ptr 2 0 0] (lv3H bl wd e th S FT) (lv3R bl wd e th S FT) := by
  refine loc_of_call ETl_ok (fun hp => ?_)
  have hFT : FT = tabF tab := hp _ (List.mem_cons_self ..)
  have hu : U64 S := hp _ (List.mem_cons_of_mem _ (List.mem_cons_self ..))
  clear hp
  subst hFT
  refine ⟨2000, _, _, _, lv3_1 .., (ob_cons ?_ (ob_cons rfl (ob_cons (Nat.le_refl _) (ob_cons (.inl ⟨rfl, rfl⟩) (ob_cons rfl (ob_cons ?_ (ob_cons ?_ (ob_cons ?_ (ob_cons ?_ (ob_cons ?_ (ob_cons rfl (ob_cons rfl (ob_cons ?_ (ob_cons rfl (ob_cons ?_ (ob_cons ?_ (ob_cons ?_ (ob_cons ?_ (ob_cons (by decide) ob_nil)))))))))))))))))))⟩
  · exact rfl
  · exact rfl
  · exact rfl
  · exact rfl
  · exact rfl
  · exact rfl
  · exact rfl
  · exact rfl
  · exact rfl
  · exact rfl
  · exact fun _ => rfl
theorem lv4_1 (bl : Int) (wd : Int) (e : Int) (th : Int) (S : MS) : callB ETl 2000 76 [AV.ptr 1 0 0, AV.ptr 2 0 0] (lv4H bl wd e th S (tabF tab)) (lv4R bl wd e th S (tabF tab)) [] [] =
 some ([((5 : Int) == (0 : Int)) = decide ((5 : Int) = (0 : Int)),
 true = true,
 (1 : Nat) ≤ (1 : Nat),
 tabF tab = tabF tab ∧ plainSh (List.map kindOfV tab) = true ∨ ∀ (i : Nat), i < 1 → rowOb (List.map kindOfV tab) 0 (tabF tab i) (tabF tab i),
 (5 : Int) = 5,
 bl = (lvO S (VO.mk 4 bl wd e th)).bl,
 wd = (lvO S (VO.mk 4 bl wd e th)).wd,
 e = (lvO S (VO.mk 4 bl wd e th)).e,
 th = (lvO S (VO.mk 4 bl wd e th)).th,
 IntKind.i64.wrap (S.st + 1) = (lvS S (VO.mk 4 bl wd e th)).st,
 (2 : Int) = 2,
 (8 : Int) = 8,
 th = (lvS S (VO.mk 4 bl wd e th)).L.a,
 (0 : Int) = 0,
 mget S.M (key 8 th 0) = (lvS S (VO.mk 4 bl wd e th)).L.w,
 memIs S.M 8 th 0 0 = (lvS S (VO.mk 4 bl wd e th)).L.i,
 false = (lvS S (VO.mk 4 bl wd e th)).L.d,
 ∀ (k : List Int), memPut S.M 8 th 0 0 k = (lvS S (VO.mk 4 bl wd e th)).M k,
 (0 : Int) ≤ (8 : Int)]) := by kernel_rfl
theorem lv4_loc (bl : Int) (wd : Int) (e : Int) (th : Int) (S : MS) (FT : Nat → Nat → AV) : LocOk Tryd.prog 76 [.ptr 1 0 0, .ptr 2 0 0] (lv4H bl wd e th S FT) (lv4R bl wd e th S FT) := by
  refine loc_of_call ETl_ok (fun hp => ?_)
  have hFT : FT = tabF tab := hp _ (List.mem_cons_self ..)
  have hu : U64 S := hp _ (List.mem_cons_of_mem _ (List.mem_cons_self ..))
  clear hp
  subst hFT
  refine ⟨2000, _, _, _, lv4_1 .., (ob_cons ?_ (ob_cons rfl (ob_cons (Nat.le_refl _) (ob_cons (.inl ⟨rfl, rfl⟩) (ob_cons rfl (ob_cons ?_ (ob_cons ?_ (ob_cons ?_ (ob_cons ?_ (ob_cons ?_ (ob_cons rfl (ob_cons rfl (ob_cons ?_ (ob_cons rfl (ob_cons ?_ (ob_cons ?_ (ob_cons ?_ (ob_cons ?_ (ob_cons (by decide) ob_nil)))))))))))))))))))⟩
  · exact rfl
  · exact rfl
  · exact rfl
  · exact rfl
  · exact rfl
  · exact rfl
  · exact rfl
  · exact rfl
  · exact rfl
  · exact rfl
  · exact fun _ => rfl
theorem lv5_1 (bl : Int) (wd : Int) (e : Int) (th : Int) (S : MS) : callB ETl 2000 76 [AV.ptr 1 0 0, AV.ptr 2 0 0] (lv5H bl wd e th S (tabF tab)) (lv5R bl wd e th S (tabF tab)) [] [] =
 some ([((6 : Int) == (0 : Int)) = decide ((6 : Int) = (0 : Int)),
 true = true,
 (1 : Nat) ≤ (1 : Nat),
 tabF tab = tabF tab ∧ plainSh (List.map kindOfV tab) = true ∨ ∀ (i : Nat), i < 1 → rowOb (List.map kindOfV tab) 0 (tabF tab i) (tabF tab i),
 (6 : Int) = 6,
 bl = (lvO S (VO.mk 5 bl wd e th)).bl,
 mget S.M (key 7 bl 0) = (lvO S (VO.mk 5 bl wd e th)).wd,
 e = (lvO S (VO.mk 5 bl wd e th)).e,
 th = (lvO S (VO.mk 5 bl wd e th)).th,
 IntKind.i64.wrap (S.st + 1) = (lvS S (VO.mk 5 bl wd e th)).st,
 (1 : Int) = 1,
 (7 : Int) = 7,
 bl = (lvS S (VO.mk 5 bl wd e th)).L.a,
 (0 : Int) = 0,
 mget S.M (key 7 bl 0) = (lvS S (VO.mk 5 bl wd e th)).L.w,
 mget S.M (key 7 bl 0) = (lvS S (VO.mk 5 bl wd e th)).L.i,
 false = (lvS S (VO.mk 5 bl wd e th)).L.d,
 ∀ (k : List Int), S.M k = (lvS S (VO.mk 5 bl wd e th)).M k,
 TabIs tab (tabF tab),
 0 ≤ mget S.M (key 7 bl 0),
 mget S.M (key 7 bl 0) < 18446744073709551616]) := by kernel_rfl
theorem lv5_loc (bl : Int) (wd : Int) (e : Int) (th : Int) (S : MS) (FT : Nat → Nat → AV) : LocOk Tryd.prog 76 [.ptr 1 0 0, .ptr 2 0 0] (lv5H bl wd e th S FT) (lv5R bl wd e th S FT) := by
  refine loc_of_call ETl_ok (fun hp => ?_)
  have hFT : FT = tabF tab := hp _ (List.mem_cons_self ..)
  have hu : U64 S := hp _ (List.mem_cons_of_mem _ (List.mem_cons_self ..))
  clear hp
  subst hFT
  refine ⟨2000, _, _, _, lv5_1 .., (ob_cons ?_ (ob_cons rfl (ob_cons (Nat.le_refl _) (ob_cons (.inl ⟨rfl, rfl⟩) (ob_cons rfl (ob_cons ?_ (ob_cons ?_ (ob_cons ?_ (ob_cons ?_ (ob_cons ?_ (ob_cons rfl (ob_cons rfl (ob_cons ?_ (ob_cons rfl (ob_cons ?_ (ob_cons ?_ (ob_cons ?_ (ob_cons ?_ (ob_cons (tabIs_self _) (ob_cons ?_ (ob_cons ?_ ob_nil)))))))))))))))))))))⟩
  · exact rfl
  · exact rfl
  · exact rfl
  · exact rfl
  · exact rfl
  · exact rfl
  · exact rfl
  · exact rfl
  · exact rfl
  · exact rfl
  · exact fun _ => rfl
  · exact (hu _).1
  · exact (hu _).2
theorem lv6a_1 (bl : Int) (wd : Int) (e : Int) (th : Int) (S : MS) : callB ETl 2000 76 [AV.ptr 1 0 0, AV.ptr 2 0 0] (lv6aH bl wd e th S (tabF tab)) (lv6aR bl wd e th S (tabF tab)) [] [Hint.b true] =
 some ([((0 : Int) == (0 : Int)) = decide ((lvO S (VO.mk (6 : Int) bl wd e th)).ln = (0 : Int)),
 true = true,
 (1 : Nat) ≤ (1 : Nat),
 tabF tab = tabF tab ∧ plainSh (List.map kindOfV tab) = true ∨ ∀ (i : Nat), i < 1 → rowOb (List.map kindOfV tab) 0 (tabF tab i) (tabF tab i),
 0 = (lvO S (VO.mk 6 bl wd e th)).ln,
 bl = (lvO S (VO.mk 6 bl wd e th)).bl,
 wd = (lvO S (VO.mk 6 bl wd e th)).wd,
 0 = (lvO S (VO.mk 6 bl wd e th)).e,
 th = (lvO S (VO.mk 6 bl wd e th)).th,
 IntKind.i64.wrap (S.st + 1) = (lvS S (VO.mk 6 bl wd e th)).st,
 (3 : Int) = 3,
 (7 : Int) = 7,
 bl = (lvS S (VO.mk 6 bl wd e th)).L.a,
 (0 : Int) = 0,
 mget S.M (key 7 bl 0) = (lvS S (VO.mk 6 bl wd e th)).L.w,
 casI S.M 7 bl 0 wd (bk (IntKind.u32.wrap ((if 1 > bkN wd then 1 else bkN wd) - 1)) (bkC wd)) = (lvS S (VO.mk 6 bl wd e th)).L.i,
 casD S.M 7 bl 0 wd = (lvS S (VO.mk 6 bl wd e th)).L.d,
 ∀ (k : List Int), casM S.M 7 bl 0 wd (bk (IntKind.u32.wrap ((if 1 > bkN wd then 1 else bkN wd) - 1)) (bkC wd)) k = (lvS S (VO.mk 6 bl wd e th)).M k,
 casD S.M 7 bl 0 wd = true,
 (0 : Int) ≤ (7 : Int),
 TabIs tab (tabF tab),
 0 ≤ IntKind.u32.wrap ((if 1 > bkN wd then 1 else bkN wd) - 1),
 IntKind.u32.wrap ((if 1 > bkN wd then 1 else bkN wd) - 1) < 4294967296,
 TabIs tab (tabF tab),
 0 ≤ wd,
 wd < 18446744073709551616]) := by kernel_rfl
theorem lv6a_loc (bl : Int) (wd : Int) (e : Int) (th : Int) (S : MS) (FT : Nat → Nat → AV) : LocOk Tryd.prog 76 [.ptr 1 0 0, .ptr 2 0 0] (lv6aH bl wd e th S FT) (lv6aR bl wd e th S FT) := by
  refine loc_of_call ETl_ok (fun hp => ?_)
  have hFT : FT = tabF tab := hp _ (List.mem_cons_self ..)
  have hu : U64 S := hp _ (List.mem_cons_of_mem _ (List.mem_cons_self ..))
  have hh : R64 wd := hp _ (List.mem_cons_of_mem _ (List.mem_cons_of_mem _ (List.mem_cons_self ..)))
  have hs : casD S.M 7 bl 0 wd = true := hp _ (List.mem_cons_of_mem _ (List.mem_cons_of_mem _ (List.mem_cons_of_mem _ (List.mem_cons_self ..))))
  clear hp
  subst hFT
  have q : lvO S ⟨6, bl, wd, e, th⟩ = ⟨0, bl, wd, 0, th⟩ := if_pos hs
  refine ⟨2000, _, _, _, lv6a_1 .., (ob_cons ?_ (ob_cons rfl (ob_cons (Nat.le_refl _) (ob_cons (.inl ⟨rfl, rfl⟩) (ob_cons ?_ (ob_cons ?_ (ob_cons ?_ (ob_cons ?_ (ob_cons ?_ (ob_cons ?_ (ob_cons rfl (ob_cons rfl (ob_cons ?_ (ob_cons rfl (ob_cons ?_ (ob_cons ?_ (ob_cons ?_ (ob_cons ?_ (ob_cons ?_ (ob_cons (by decide) (ob_cons (tabIs_self _) (ob_cons ?_ (ob_cons ?_ (ob_cons (tabIs_self _) (ob_cons ?_ (ob_cons ?_ ob_nil))))))))))))))))))))))))))⟩
  · (rw [q]; rfl)
  · (rw [q]; done)
  · (rw [q]; done)
  · (rw [q]; done)
  · (rw [q]; done)
  · (rw [q]; done)
  · exact rfl
  · exact rfl
  · exact rfl
  · (rw [tl_p]; rfl)
  · exact rfl
  · (rw [tl_p]; exact fun _ => rfl)
  · with_reducible assumption
  · (rw [tl_p]; exact (tLess_r _).1)
  · (rw [tl_p]; exact (tLess_r _).2)
  · exact hh.1
  · exact hh.2
theorem lv6b_1 (bl : Int) (wd : Int) (e : Int) (th : Int) (S : MS) : callB ETl 2000 76 [AV.ptr 1 0 0, AV.ptr 2 0 0] (lv6bH bl wd e th S (tabF tab)) (lv6bR bl wd e th S (tabF tab)) [] [Hint.b false] =
 some ([((5 : Int) == (0 : Int)) = decide ((lvO S (VO.mk (6 : Int) bl wd e th)).ln = (0 : Int)),
 true = true,
 (1 : Nat) ≤ (1 : Nat),
 tabF tab = tabF tab ∧ plainSh (List.map kindOfV tab) = true ∨ ∀ (i : Nat), i < 1 → rowOb (List.map kindOfV tab) 0 (tabF tab i) (tabF tab i),
 5 = (lvO S (VO.mk 6 bl wd e th)).ln,
 bl = (lvO S (VO.mk 6 bl wd e th)).bl,
 wd = (lvO S (VO.mk 6 bl wd e th)).wd,
 e = (lvO S (VO.mk 6 bl wd e th)).e,
 th = (lvO S (VO.mk 6 bl wd e th)).th,
 IntKind.i64.wrap (S.st + 1) = (lvS S (VO.mk 6 bl wd e th)).st,
 (3 : Int) = 3,
 (7 : Int) = 7,
 bl = (lvS S (VO.mk 6 bl wd e th)).L.a,
 (0 : Int) = 0,
 mget S.M (key 7 bl 0) = (lvS S (VO.mk 6 bl wd e th)).L.w,
 casI S.M 7 bl 0 wd (bk (IntKind.u32.wrap ((if 1 > bkN wd then 1 else bkN wd) - 1)) (bkC wd)) = (lvS S (VO.mk 6 bl wd e th)).L.i,
 casD S.M 7 bl 0 wd = (lvS S (VO.mk 6 bl wd e th)).L.d,
 ∀ (k : List Int), casM S.M 7 bl 0 wd (bk (IntKind.u32.wrap ((if 1 > bkN wd then 1 else bkN wd) - 1)) (bkC wd)) k = (lvS S (VO.mk 6 bl wd e th)).M k,
 casD S.M 7 bl 0 wd = false,
 (0 : Int) ≤ (7 : Int),
 TabIs tab (tabF tab),
 0 ≤ IntKind.u32.wrap ((if 1 > bkN wd then 1 else bkN wd) - 1),
 IntKind.u32.wrap ((if 1 > bkN wd then 1 else bkN wd) - 1) < 4294967296,
 TabIs tab (tabF tab),
 0 ≤ wd,
 wd < 18446744073709551616]) := by kernel_rfl
theorem lv6b_loc (bl : Int) (wd : Int) (e : Int) (th : Int) (S : MS) (FT : Nat → Nat → AV) : LocOk Tryd.prog 76 [.ptr 1 0 0, .ptr 2 0 0] (lv6bH bl wd e th S FT) (lv6bR bl wd e th S FT) := by
  refine loc_of_call ETl_ok (fun hp => ?_)
  have hFT : FT = tabF tab := hp _ (List.mem_cons_self ..)
  have hu : U64 S := hp _ (List.mem_cons_of_mem _ (List.mem_cons_self ..))
  have hh : R64 wd := hp _ (List.mem_cons_of_mem _ (List.mem_cons_of_mem _ (List.mem_cons_self ..)))
  have hs : ¬ casD S.M 7 bl 0 wd = true := hp _ (List.mem_cons_of_mem _ (List.mem_cons_of_mem _ (List.mem_cons_of_mem _ (List.mem_cons_self ..))))
  clear hp
  subst hFT
  have q : lvO S ⟨6, bl, wd, e, th⟩ = ⟨5, bl, wd, e, th⟩ := if_neg hs
  have t1 : casD S.M 7 bl 0 wd = false := by simpa using hs
  refine ⟨2000, _, _, _, lv6b_1 .., (ob_cons ?_ (ob_cons rfl (ob_cons (Nat.le_refl _) (ob_cons (.inl ⟨rfl, rfl⟩) (ob_cons ?_ (ob_cons ?_ (ob_cons ?_ (ob_cons ?_ (ob_cons ?_ (ob_cons ?_ (ob_cons rfl (ob_cons rfl (ob_cons ?_ (ob_cons rfl (ob_cons ?_ (ob_cons ?_ (ob_cons ?_ (ob_cons ?_ (ob_cons ?_ (ob_cons (by decide) (ob_cons (tabIs_self _) (ob_cons ?_ (ob_cons ?_ (ob_cons (tabIs_self _) (ob_cons ?_ (ob_cons ?_ ob_nil))))))))))))))))))))))))))⟩
  · (rw [q]; rfl)
  · (rw [q]; done)
  · (rw [q]; done)
  · (rw [q]; done)
  · (rw [q]; done)
  · (rw [q]; done)
  · exact rfl
  · exact rfl
  · exact rfl
  · (rw [tl_p]; rfl)
  · exact rfl
  · (rw [tl_p]; exact fun _ => rfl)
  · with_reducible assumption
  · (rw [tl_p]; exact (tLess_r _).1)
  · (rw [tl_p]; exact (tLess_r _).2)
  · exact hh.1
  · exact hh.2
end Go.Proofs.YtmndhjodbnojdaaDoor
