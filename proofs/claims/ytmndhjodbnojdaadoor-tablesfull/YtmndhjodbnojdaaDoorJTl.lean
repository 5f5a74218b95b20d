/-
  Steps of a Join: line by line.
-/
import Derived.Test.YtmndhjodbnojdaaDoorJTlDef
set_option linter.unusedSimpArgs false
set_option linter.unusedVariables false
namespace Go.Proofs.YtmndhjodbnojdaaDoor
open Go.Ev
theorem jn0_1 (bl : Int) (wd : Int) (e : Int) (ow : Int) (bs : Int) (kk : Int) (th : Int) (S : MS) : callB ETl 2000 73 [AV.ptr 1 0 0, AV.ptr 2 0 0] (jn0H bl wd e ow bs kk th S (tabF tab)) (jn0R bl wd e ow bs kk th S (tabF tab)) [] [] =
 some ([((0 : Int) == (0 : Int)) = decide ((0 : Int) = (0 : Int)),
 true = true,
 (1 : Nat) ≤ (1 : Nat),
 tabF tab = tabF tab ∧ plainSh (List.map kindOfV tab) = true ∨ ∀ (i : Nat), i < 1 → rowOb (List.map kindOfV tab) 0 (tabF tab i) (tabF tab i),
 (0 : Int) = 0,
 bl = (jnO S (JO.mk 0 bl wd e ow bs kk th)).bl,
 wd = (jnO S (JO.mk 0 bl wd e ow bs kk th)).wd,
 e = (jnO S (JO.mk 0 bl wd e ow bs kk th)).e,
 ow = (jnO S (JO.mk 0 bl wd e ow bs kk th)).ow,
 bs = (jnO S (JO.mk 0 bl wd e ow bs kk th)).bs,
 kk = (jnO S (JO.mk 0 bl wd e ow bs kk th)).kk,
 th = (jnO S (JO.mk 0 bl wd e ow bs kk th)).th,
 S.st = (jnS S (JO.mk 0 bl wd e ow bs kk th)).st,
 S.L.c = (jnS S (JO.mk 0 bl wd e ow bs kk th)).L.c,
 S.L.k = (jnS S (JO.mk 0 bl wd e ow bs kk th)).L.k,
 S.L.a = (jnS S (JO.mk 0 bl wd e ow bs kk th)).L.a,
 S.L.f = (jnS S (JO.mk 0 bl wd e ow bs kk th)).L.f,
 S.L.w = (jnS S (JO.mk 0 bl wd e ow bs kk th)).L.w,
 S.L.i = (jnS S (JO.mk 0 bl wd e ow bs kk th)).L.i,
 S.L.d = (jnS S (JO.mk 0 bl wd e ow bs kk th)).L.d,
 ∀ (k : List Int), S.M k = (jnS S (JO.mk 0 bl wd e ow bs kk th)).M k]) := by kernel_rfl
theorem jn0_loc (bl : Int) (wd : Int) (e : Int) (ow : Int) (bs : Int) (kk : Int) (th : Int) (S : MS) (FT : Nat → Nat → AV) : LocOk Tryd.prog 73 [.ptr 1 0 0, .ptr 2 0 0] (jn0H bl wd e ow bs kk th S FT) (jn0R bl wd e ow bs kk th S FT) := by
  refine loc_of_call ETl_ok (fun hp => ?_)
  have hFT : FT = tabF tab := hp _ (List.mem_cons_self ..)
  have hu : U64 S := hp _ (List.mem_cons_of_mem _ (List.mem_cons_self ..))
  clear hp
  subst hFT
  refine ⟨2000, _, _, _, jn0_1 .., (ob_cons ?_ (ob_cons rfl (ob_cons (Nat.le_refl _) (ob_cons (.inl ⟨rfl, rfl⟩) (ob_cons rfl (ob_cons ?_ (ob_cons ?_ (ob_cons ?_ (ob_cons ?_ (ob_cons ?_ (ob_cons ?_ (ob_cons ?_ (ob_cons ?_ (ob_cons ?_ (ob_cons ?_ (ob_cons ?_ (ob_cons ?_ (ob_cons ?_ (ob_cons ?_ (ob_cons ?_ (ob_cons ?_ ob_nil)))))))))))))))))))))⟩
  · exact rfl
  · exact rfl
  · exact rfl
  · exact rfl
  · exact rfl
  · exact rfl
  · exact rfl
  · exact rfl
  · exact rfl
  · exact rfl
  · exact rfl
  · exact rfl
  · exact rfl
  · exact rfl
  · exact rfl
  · exact rfl
  · exact fun _ => rfl
theorem jn1a_1 (bl : Int) (wd : Int) (e : Int) (ow : Int) (bs : Int) (kk : Int) (th : Int) (S : MS) : callB ETl 2000 73 [AV.ptr 1 0 0, AV.ptr 2 0 0] (jn1aH bl wd e ow bs kk th S (tabF tab)) (jn1aR bl wd e ow bs kk th S (tabF tab)) [] [Hint.b true] =
 some ([((0 : Int) == (0 : Int)) = decide ((jnO S (JO.mk (1 : Int) bl wd e ow bs kk th)).ln = (0 : Int)),
 true = true,
 (1 : Nat) ≤ (1 : Nat),
 tabF tab = tabF tab ∧ plainSh (List.map kindOfV tab) = true ∨ ∀ (i : Nat), i < 1 → rowOb (List.map kindOfV tab) 0 (tabF tab i) (tabF tab i),
 0 = (jnO S (JO.mk 1 bl wd e ow bs kk th)).ln,
 bl = (jnO S (JO.mk 1 bl wd e ow bs kk th)).bl,
 wd = (jnO S (JO.mk 1 bl wd e ow bs kk th)).wd,
 5 = (jnO S (JO.mk 1 bl wd e ow bs kk th)).e,
 ow = (jnO S (JO.mk 1 bl wd e ow bs kk th)).ow,
 IntKind.i64.wrap (if 4 < mget S.M (key 5 0 0) then 4 else mget S.M (key 5 0 0)) = (jnO S (JO.mk 1 bl wd e ow bs kk th)).bs,
 kk = (jnO S (JO.mk 1 bl wd e ow bs kk th)).kk,
 th = (jnO S (JO.mk 1 bl wd e ow bs kk th)).th,
 IntKind.i64.wrap (S.st + 1) = (jnS S (JO.mk 1 bl wd e ow bs kk th)).st,
 (1 : Int) = 1,
 (5 : Int) = 5,
 (0 : Int) = 0,
 (0 : Int) = 0,
 mget S.M (key 5 0 0) = (jnS S (JO.mk 1 bl wd e ow bs kk th)).L.w,
 mget S.M (key 5 0 0) = (jnS S (JO.mk 1 bl wd e ow bs kk th)).L.i,
 false = (jnS S (JO.mk 1 bl wd e ow bs kk th)).L.d,
 ∀ (k : List Int), S.M k = (jnS S (JO.mk 1 bl wd e ow bs kk th)).M k,
 (IntKind.i64.wrap (if 4 < mget S.M (key 5 0 0) then 4 else mget S.M (key 5 0 0)) == 0) = true]) := by kernel_rfl
theorem jn1a_loc (bl : Int) (wd : Int) (e : Int) (ow : Int) (bs : Int) (kk : Int) (th : Int) (S : MS) (FT : Nat → Nat → AV) : LocOk Tryd.prog 73 [.ptr 1 0 0, .ptr 2 0 0] (jn1aH bl wd e ow bs kk th S FT) (jn1aR bl wd e ow bs kk th S FT) := by
  refine loc_of_call ETl_ok (fun hp => ?_)
  have hFT : FT = tabF tab := hp _ (List.mem_cons_self ..)
  have hu : U64 S := hp _ (List.mem_cons_of_mem _ (List.mem_cons_self ..))
  have hs : IntKind.i64.wrap (tBs (mget S.M (key 5 0 0))) = 0 := hp _ (List.mem_cons_of_mem _ (List.mem_cons_of_mem _ (List.mem_cons_self ..)))
  clear hp
  subst hFT
  have q : jnO S ⟨1, bl, wd, e, ow, bs, kk, th⟩ = ⟨0, bl, wd, 5, ow, IntKind.i64.wrap (tBs (mget S.M (key 5 0 0))), kk, th⟩ := if_pos hs
  have t1 : (IntKind.i64.wrap (if 4 < mget S.M (key 5 0 0) then 4 else mget S.M (key 5 0 0)) == 0) = true := eqT hs
  refine ⟨2000, _, _, _, jn1a_1 .., (ob_cons ?_ (ob_cons rfl (ob_cons (Nat.le_refl _) (ob_cons (.inl ⟨rfl, rfl⟩) (ob_cons ?_ (ob_cons ?_ (ob_cons ?_ (ob_cons ?_ (ob_cons ?_ (ob_cons ?_ (ob_cons ?_ (ob_cons ?_ (ob_cons ?_ (ob_cons rfl (ob_cons rfl (ob_cons rfl (ob_cons rfl (ob_cons ?_ (ob_cons ?_ (ob_cons ?_ (ob_cons ?_ (ob_cons ?_ ob_nil))))))))))))))))))))))⟩
  · (rw [q]; rfl)
  · (rw [q]; done)
  · (rw [q]; done)
  · (rw [q]; done)
  · (rw [q]; done)
  · (rw [q]; done)
  · (rw [q]; rfl)
  · (rw [q]; done)
  · (rw [q]; done)
  · exact rfl
  · exact rfl
  · exact rfl
  · exact rfl
  · exact fun _ => rfl
  · with_reducible assumption
theorem jn1b_1 (bl : Int) (wd : Int) (e : Int) (ow : Int) (bs : Int) (kk : Int) (th : Int) (S : MS) : callB ETl 2000 73 [AV.ptr 1 0 0, AV.ptr 2 0 0] (jn1bH bl wd e ow bs kk th S (tabF tab)) (jn1bR bl wd e ow bs kk th S (tabF tab)) [] [Hint.b false] =
 some ([((2 : Int) == (0 : Int)) = decide ((jnO S (JO.mk (1 : Int) bl wd e ow bs kk th)).ln = (0 : Int)),
 true = true,
 (1 : Nat) ≤ (1 : Nat),
 tabF tab = tabF tab ∧ plainSh (List.map kindOfV tab) = true ∨ ∀ (i : Nat), i < 1 → rowOb (List.map kindOfV tab) 0 (tabF tab i) (tabF tab i),
 2 = (jnO S (JO.mk 1 bl wd e ow bs kk th)).ln,
 bl = (jnO S (JO.mk 1 bl wd e ow bs kk th)).bl,
 wd = (jnO S (JO.mk 1 bl wd e ow bs kk th)).wd,
 e = (jnO S (JO.mk 1 bl wd e ow bs kk th)).e,
 ow = (jnO S (JO.mk 1 bl wd e ow bs kk th)).ow,
 IntKind.i64.wrap (if 4 < mget S.M (key 5 0 0) then 4 else mget S.M (key 5 0 0)) = (jnO S (JO.mk 1 bl wd e ow bs kk th)).bs,
 kk = (jnO S (JO.mk 1 bl wd e ow bs kk th)).kk,
 th = (jnO S (JO.mk 1 bl wd e ow bs kk th)).th,
 IntKind.i64.wrap (S.st + 1) = (jnS S (JO.mk 1 bl wd e ow bs kk th)).st,
 (1 : Int) = 1,
 (5 : Int) = 5,
 (0 : Int) = 0,
 (0 : Int) = 0,
 mget S.M (key 5 0 0) = (jnS S (JO.mk 1 bl wd e ow bs kk th)).L.w,
 mget S.M (key 5 0 0) = (jnS S (JO.mk 1 bl wd e ow bs kk th)).L.i,
 false = (jnS S (JO.mk 1 bl wd e ow bs kk th)).L.d,
 ∀ (k : List Int), S.M k = (jnS S (JO.mk 1 bl wd e ow bs kk th)).M k,
 (IntKind.i64.wrap (if 4 < mget S.M (key 5 0 0) then 4 else mget S.M (key 5 0 0)) == 0) = false]) := by kernel_rfl
theorem jn1b_loc (bl : Int) (wd : Int) (e : Int) (ow : Int) (bs : Int) (kk : Int) (th : Int) (S : MS) (FT : Nat → Nat → AV) : LocOk Tryd.prog 73 [.ptr 1 0 0, .ptr 2 0 0] (jn1bH bl wd e ow bs kk th S FT) (jn1bR bl wd e ow bs kk th S FT) := by
  refine loc_of_call ETl_ok (fun hp => ?_)
  have hFT : FT = tabF tab := hp _ (List.mem_cons_self ..)
  have hu : U64 S := hp _ (List.mem_cons_of_mem _ (List.mem_cons_self ..))
  have hs : ¬ IntKind.i64.wrap (tBs (mget S.M (key 5 0 0))) = 0 := hp _ (List.mem_cons_of_mem _ (List.mem_cons_of_mem _ (List.mem_cons_self ..)))
  clear hp
  subst hFT
  have q : jnO S ⟨1, bl, wd, e, ow, bs, kk, th⟩ = ⟨2, bl, wd, e, ow, IntKind.i64.wrap (tBs (mget S.M (key 5 0 0))), kk, th⟩ := if_neg hs
  have t1 : (IntKind.i64.wrap (if 4 < mget S.M (key 5 0 0) then 4 else mget S.M (key 5 0 0)) == 0) = false := eqF hs
  refine ⟨2000, _, _, _, jn1b_1 .., (ob_cons ?_ (ob_cons rfl (ob_cons (Nat.le_refl _) (ob_cons (.inl ⟨rfl, rfl⟩) (ob_cons ?_ (ob_cons ?_ (ob_cons ?_ (ob_cons ?_ (ob_cons ?_ (ob_cons ?_ (ob_cons ?_ (ob_cons ?_ (ob_cons ?_ (ob_cons rfl (ob_cons rfl (ob_cons rfl (ob_cons rfl (ob_cons ?_ (ob_cons ?_ (ob_cons ?_ (ob_cons ?_ (ob_cons ?_ ob_nil))))))))))))))))))))))⟩
  · (rw [q]; rfl)
  · (rw [q]; done)
  · (rw [q]; done)
  · (rw [q]; done)
  · (rw [q]; done)
  · (rw [q]; done)
  · (rw [q]; rfl)
  · (rw [q]; done)
  · (rw [q]; done)
  · exact rfl
  · exact rfl
  · exact rfl
  · exact rfl
  · exact fun _ => rfl
  · with_reducible assumption
theorem jn2a_1 (bl : Int) (wd : Int) (e : Int) (ow : Int) (bs : Int) (kk : Int) (th : Int) (S : MS) : callB ETl 2000 73 [AV.ptr 1 0 0, AV.ptr 2 0 0] (jn2aH bl wd e ow bs kk th S (tabF tab)) (jn2aR bl wd e ow bs kk th S (tabF tab)) [] [Hint.b true, Hint.b true] =
 some ([((3 : Int) == (0 : Int)) = decide ((jnO S (JO.mk (2 : Int) bl wd e ow bs kk th)).ln = (0 : Int)),
 true = true,
 (1 : Nat) ≤ (1 : Nat),
 tabF tab = tabF tab ∧ plainSh (List.map kindOfV tab) = true ∨ ∀ (i : Nat), i < 1 → rowOb (List.map kindOfV tab) 0 (tabF tab i) (tabF tab i),
 3 = (jnO S (JO.mk 2 bl wd e ow bs kk th)).ln,
 bl = (jnO S (JO.mk 2 bl wd e ow bs kk th)).bl,
 mget S.M (key 7 bl 0) = (jnO S (JO.mk 2 bl wd e ow bs kk th)).wd,
 e = (jnO S (JO.mk 2 bl wd e ow bs kk th)).e,
 ow = (jnO S (JO.mk 2 bl wd e ow bs kk th)).ow,
 bs = (jnO S (JO.mk 2 bl wd e ow bs kk th)).bs,
 kk = (jnO S (JO.mk 2 bl wd e ow bs kk th)).kk,
 th = (jnO S (JO.mk 2 bl wd e ow bs kk th)).th,
 IntKind.i64.wrap (S.st + 1) = (jnS S (JO.mk 2 bl wd e ow bs kk th)).st,
 (1 : Int) = 1,
 (7 : Int) = 7,
 bl = (jnS S (JO.mk 2 bl wd e ow bs kk th)).L.a,
 (0 : Int) = 0,
 mget S.M (key 7 bl 0) = (jnS S (JO.mk 2 bl wd e ow bs kk th)).L.w,
 mget S.M (key 7 bl 0) = (jnS S (JO.mk 2 bl wd e ow bs kk th)).L.i,
 false = (jnS S (JO.mk 2 bl wd e ow bs kk th)).L.d,
 ∀ (k : List Int), S.M k = (jnS S (JO.mk 2 bl wd e ow bs kk th)).M k,
 decide (bkN (mget S.M (key 7 bl 0)) < 4) = true,
 (!bkC (mget S.M (key 7 bl 0))) = true,
 TabIs tab (tabF tab),
 0 ≤ mget S.M (key 7 bl 0),
 mget S.M (key 7 bl 0) < 18446744073709551616]) := by kernel_rfl
theorem jn2a_loc (bl : Int) (wd : Int) (e : Int) (ow : Int) (bs : Int) (kk : Int) (th : Int) (S : MS) (FT : Nat → Nat → AV) : LocOk Tryd.prog 73 [.ptr 1 0 0, .ptr 2 0 0] (jn2aH bl wd e ow bs kk th S FT) (jn2aR bl wd e ow bs kk th S FT) := by
  refine loc_of_call ETl_ok (fun hp => ?_)
  have hFT : FT = tabF tab := hp _ (List.mem_cons_self ..)
  have hu : U64 S := hp _ (List.mem_cons_of_mem _ (List.mem_cons_self ..))
  have hc : bkC (mget S.M (key 7 bl 0)) = false := hp _ (List.mem_cons_of_mem _ (List.mem_cons_of_mem _ (List.mem_cons_self ..)))
  have hn : bkN (mget S.M (key 7 bl 0)) < 4 := hp _ (List.mem_cons_of_mem _ (List.mem_cons_of_mem _ (List.mem_cons_of_mem _ (List.mem_cons_self ..))))
  clear hp
  subst hFT
  have hx : bkC (mget S.M (key 7 bl 0)) = false ∧ bkN (mget S.M (key 7 bl 0)) < 4 := ⟨hc, hn⟩
  have q : jnO S ⟨2, bl, wd, e, ow, bs, kk, th⟩ = ⟨3, bl, (mget S.M (key 7 bl 0)), e, ow, bs, kk, th⟩ := if_pos hx
  have t1 : (!bkC (mget S.M (key 7 bl 0))) = true := by rw [hc]; rfl
  have t2 : decide (bkN (mget S.M (key 7 bl 0)) < 4) = true := decide_eq_true hn
  refine ⟨2000, _, _, _, jn2a_1 .., (ob_cons ?_ (ob_cons rfl (ob_cons (Nat.le_refl _) (ob_cons (.inl ⟨rfl, rfl⟩) (ob_cons ?_ (ob_cons ?_ (ob_cons ?_ (ob_cons ?_ (ob_cons ?_ (ob_cons ?_ (ob_cons ?_ (ob_cons ?_ (ob_cons ?_ (ob_cons rfl (ob_cons rfl (ob_cons ?_ (ob_cons rfl (ob_cons ?_ (ob_cons ?_ (ob_cons ?_ (ob_cons ?_ (ob_cons ?_ (ob_cons ?_ (ob_cons (tabIs_self _) (ob_cons ?_ (ob_cons ?_ ob_nil))))))))))))))))))))))))))⟩
  · (rw [q]; rfl)
  · (rw [q]; done)
  · (rw [q]; done)
  · (rw [q]; done)
  · (rw [q]; done)
  · (rw [q]; done)
  · (rw [q]; done)
  · (rw [q]; done)
  · (rw [q]; done)
  · exact rfl
  · exact rfl
  · exact rfl
  · exact rfl
  · exact rfl
  · exact fun _ => rfl
  · with_reducible assumption
  · with_reducible assumption
  · exact (hu _).1
  · exact (hu _).2
theorem jn2b_1 (bl : Int) (wd : Int) (e : Int) (ow : Int) (bs : Int) (kk : Int) (th : Int) (S : MS) : callB ETl 2000 73 [AV.ptr 1 0 0, AV.ptr 2 0 0] (jn2bH bl wd e ow bs kk th S (tabF tab)) (jn2bR bl wd e ow bs kk th S (tabF tab)) [] [Hint.b false, Hint.b true] =
 some ([((0 : Int) == (0 : Int)) = decide ((jnO S (JO.mk (2 : Int) bl wd e ow bs kk th)).ln = (0 : Int)),
 true = true,
 (1 : Nat) ≤ (1 : Nat),
 tabF tab = tabF tab ∧ plainSh (List.map kindOfV tab) = true ∨ ∀ (i : Nat), i < 1 → rowOb (List.map kindOfV tab) 0 (tabF tab i) (tabF tab i),
 0 = (jnO S (JO.mk 2 bl wd e ow bs kk th)).ln,
 IntKind.i64.wrap (bl + 1) = (jnO S (JO.mk 2 bl wd e ow bs kk th)).bl,
 mget S.M (key 7 bl 0) = (jnO S (JO.mk 2 bl wd e ow bs kk th)).wd,
 5 = (jnO S (JO.mk 2 bl wd e ow bs kk th)).e,
 ow = (jnO S (JO.mk 2 bl wd e ow bs kk th)).ow,
 bs = (jnO S (JO.mk 2 bl wd e ow bs kk th)).bs,
 kk = (jnO S (JO.mk 2 bl wd e ow bs kk th)).kk,
 th = (jnO S (JO.mk 2 bl wd e ow bs kk th)).th,
 IntKind.i64.wrap (S.st + 1) = (jnS S (JO.mk 2 bl wd e ow bs kk th)).st,
 (1 : Int) = 1,
 (7 : Int) = 7,
 bl = (jnS S (JO.mk 2 bl wd e ow bs kk th)).L.a,
 (0 : Int) = 0,
 mget S.M (key 7 bl 0) = (jnS S (JO.mk 2 bl wd e ow bs kk th)).L.w,
 mget S.M (key 7 bl 0) = (jnS S (JO.mk 2 bl wd e ow bs kk th)).L.i,
 false = (jnS S (JO.mk 2 bl wd e ow bs kk th)).L.d,
 ∀ (k : List Int), S.M k = (jnS S (JO.mk 2 bl wd e ow bs kk th)).M k,
 (IntKind.i64.wrap (bl + 1) == bs) = true,
 (!bkC (mget S.M (key 7 bl 0))) = false,
 TabIs tab (tabF tab),
 0 ≤ mget S.M (key 7 bl 0),
 mget S.M (key 7 bl 0) < 18446744073709551616]) := by kernel_rfl
theorem jn2b_loc (bl : Int) (wd : Int) (e : Int) (ow : Int) (bs : Int) (kk : Int) (th : Int) (S : MS) (FT : Nat → Nat → AV) : LocOk Tryd.prog 73 [.ptr 1 0 0, .ptr 2 0 0] (jn2bH bl wd e ow bs kk th S FT) (jn2bR bl wd e ow bs kk th S FT) := by
  refine loc_of_call ETl_ok (fun hp => ?_)
  have hFT : FT = tabF tab := hp _ (List.mem_cons_self ..)
  have hu : U64 S := hp _ (List.mem_cons_of_mem _ (List.mem_cons_self ..))
  have hc : bkC (mget S.M (key 7 bl 0)) = true := hp _ (List.mem_cons_of_mem _ (List.mem_cons_of_mem _ (List.mem_cons_self ..)))
  have hb : IntKind.i64.wrap (bl + 1) = bs := hp _ (List.mem_cons_of_mem _ (List.mem_cons_of_mem _ (List.mem_cons_of_mem _ (List.mem_cons_self ..))))
  clear hp
  subst hFT
  have hx : ¬ (bkC (mget S.M (key 7 bl 0)) = false ∧ bkN (mget S.M (key 7 bl 0)) < 4) := fun c => by rw [hc] at c; cases c.1
  have q : jnO S ⟨2, bl, wd, e, ow, bs, kk, th⟩ = ⟨0, IntKind.i64.wrap (bl + 1), (mget S.M (key 7 bl 0)), 5, ow, bs, kk, th⟩ := (if_neg hx).trans (if_pos hb)
  have t1 : (!bkC (mget S.M (key 7 bl 0))) = false := by rw [hc]; rfl
  have t2 : (IntKind.i64.wrap (bl + 1) == bs) = true := eqT hb
  refine ⟨2000, _, _, _, jn2b_1 .., (ob_cons ?_ (ob_cons rfl (ob_cons (Nat.le_refl _) (ob_cons (.inl ⟨rfl, rfl⟩) (ob_cons ?_ (ob_cons ?_ (ob_cons ?_ (ob_cons ?_ (ob_cons ?_ (ob_cons ?_ (ob_cons ?_ (ob_cons ?_ (ob_cons ?_ (ob_cons rfl (ob_cons rfl (ob_cons ?_ (ob_cons rfl (ob_cons ?_ (ob_cons ?_ (ob_cons ?_ (ob_cons ?_ (ob_cons ?_ (ob_cons ?_ (ob_cons (tabIs_self _) (ob_cons ?_ (ob_cons ?_ ob_nil))))))))))))))))))))))))))⟩
  · (rw [q]; rfl)
  · (rw [q]; done)
  · (rw [q]; done)
  · (rw [q]; done)
  · (rw [q]; done)
  · (rw [q]; done)
  · (rw [q]; done)
  · (rw [q]; done)
  · (rw [q]; done)
  · exact rfl
  · exact rfl
  · exact rfl
  · exact rfl
  · exact rfl
  · exact fun _ => rfl
  · with_reducible assumption
  · with_reducible assumption
  · exact (hu _).1
  · exact (hu _).2
theorem jn2c_1 (bl : Int) (wd : Int) (e : Int) (ow : Int) (bs : Int) (kk : Int) (th : Int) (S : MS) : callB ETl 2000 73 [AV.ptr 1 0 0, AV.ptr 2 0 0] (jn2cH bl wd e ow bs kk th S (tabF tab)) (jn2cR bl wd e ow bs kk th S (tabF tab)) [] [Hint.b false, Hint.b false] =
 some ([((2 : Int) == (0 : Int)) = decide ((jnO S (JO.mk (2 : Int) bl wd e ow bs kk th)).ln = (0 : Int)),
 true = true,
 (1 : Nat) ≤ (1 : Nat),
 tabF tab = tabF tab ∧ plainSh (List.map kindOfV tab) = true ∨ ∀ (i : Nat), i < 1 → rowOb (List.map kindOfV tab) 0 (tabF tab i) (tabF tab i),
 2 = (jnO S (JO.mk 2 bl wd e ow bs kk th)).ln,
 IntKind.i64.wrap (bl + 1) = (jnO S (JO.mk 2 bl wd e ow bs kk th)).bl,
 mget S.M (key 7 bl 0) = (jnO S (JO.mk 2 bl wd e ow bs kk th)).wd,
 e = (jnO S (JO.mk 2 bl wd e ow bs kk th)).e,
 ow = (jnO S (JO.mk 2 bl wd e ow bs kk th)).ow,
 bs = (jnO S (JO.mk 2 bl wd e ow bs kk th)).bs,
 kk = (jnO S (JO.mk 2 bl wd e ow bs kk th)).kk,
 th = (jnO S (JO.mk 2 bl wd e ow bs kk th)).th,
 IntKind.i64.wrap (S.st + 1) = (jnS S (JO.mk 2 bl wd e ow bs kk th)).st,
 (1 : Int) = 1,
 (7 : Int) = 7,
 bl = (jnS S (JO.mk 2 bl wd e ow bs kk th)).L.a,
 (0 : Int) = 0,
 mget S.M (key 7 bl 0) = (jnS S (JO.mk 2 bl wd e ow bs kk th)).L.w,
 mget S.M (key 7 bl 0) = (jnS S (JO.mk 2 bl wd e ow bs kk th)).L.i,
 false = (jnS S (JO.mk 2 bl wd e ow bs kk th)).L.d,
 ∀ (k : List Int), S.M k = (jnS S (JO.mk 2 bl wd e ow bs kk th)).M k,
 (IntKind.i64.wrap (bl + 1) == bs) = false,
 (!bkC (mget S.M (key 7 bl 0))) = false,
 TabIs tab (tabF tab),
 0 ≤ mget S.M (key 7 bl 0),
 mget S.M (key 7 bl 0) < 18446744073709551616]) := by kernel_rfl
theorem jn2c_loc (bl : Int) (wd : Int) (e : Int) (ow : Int) (bs : Int) (kk : Int) (th : Int) (S : MS) (FT : Nat → Nat → AV) : LocOk Tryd.prog 73 [.ptr 1 0 0, .ptr 2 0 0] (jn2cH bl wd e ow bs kk th S FT) (jn2cR bl wd e ow bs kk th S FT) := by
  refine loc_of_call ETl_ok (fun hp => ?_)
  have hFT : FT = tabF tab := hp _ (List.mem_cons_self ..)
  have hu : U64 S := hp _ (List.mem_cons_of_mem _ (List.mem_cons_self ..))
  have hc : bkC (mget S.M (key 7 bl 0)) = true := hp _ (List.mem_cons_of_mem _ (List.mem_cons_of_mem _ (List.mem_cons_self ..)))
  have hb : ¬ IntKind.i64.wrap (bl + 1) = bs := hp _ (List.mem_cons_of_mem _ (List.mem_cons_of_mem _ (List.mem_cons_of_mem _ (List.mem_cons_self ..))))
  clear hp
  subst hFT
  have hx : ¬ (bkC (mget S.M (key 7 bl 0)) = false ∧ bkN (mget S.M (key 7 bl 0)) < 4) := fun c => by rw [hc] at c; cases c.1
  have q : jnO S ⟨2, bl, wd, e, ow, bs, kk, th⟩ = ⟨2, IntKind.i64.wrap (bl + 1), (mget S.M (key 7 bl 0)), e, ow, bs, kk, th⟩ := (if_neg hx).trans (if_neg hb)
  have t1 : (!bkC (mget S.M (key 7 bl 0))) = false := by rw [hc]; rfl
  have t2 : (IntKind.i64.wrap (bl + 1) == bs) = false := eqF hb
  refine ⟨2000, _, _, _, jn2c_1 .., (ob_cons ?_ (ob_cons rfl (ob_cons (Nat.le_refl _) (ob_cons (.inl ⟨rfl, rfl⟩) (ob_cons ?_ (ob_cons ?_ (ob_cons ?_ (ob_cons ?_ (ob_cons ?_ (ob_cons ?_ (ob_cons ?_ (ob_cons ?_ (ob_cons ?_ (ob_cons rfl (ob_cons rfl (ob_cons ?_ (ob_cons rfl (ob_cons ?_ (ob_cons ?_ (ob_cons ?_ (ob_cons ?_ (ob_cons ?_ (ob_cons ?_ (ob_cons (tabIs_self _) (ob_cons ?_ (ob_cons ?_ ob_nil))))))))))))))))))))))))))⟩
  · (rw [q]; rfl)
  · (rw [q]; done)
  · (rw [q]; done)
  · (rw [q]; done)
  · (rw [q]; done)
  · (rw [q]; done)
  · (rw [q]; done)
  · (rw [q]; done)
  · (rw [q]; done)
  · exact rfl
  · exact rfl
  · exact rfl
  · exact rfl
  · exact rfl
  · exact fun _ => rfl
  · with_reducible assumption
  · with_reducible assumption
  · exact (hu _).1
  · exact (hu _).2
theorem jn2d_1 (bl : Int) (wd : Int) (e : Int) (ow : Int) (bs : Int) (kk : Int) (th : Int) (S : MS) : callB ETl 2000 73 [AV.ptr 1 0 0, AV.ptr 2 0 0] (jn2dH bl wd e ow bs kk th S (tabF tab)) (jn2dR bl wd e ow bs kk th S (tabF tab)) [] [Hint.b true, Hint.b false, Hint.b true] =
 some ([((0 : Int) == (0 : Int)) = decide ((jnO S (JO.mk (2 : Int) bl wd e ow bs kk th)).ln = (0 : Int)),
 true = true,
 (1 : Nat) ≤ (1 : Nat),
 tabF tab = tabF tab ∧ plainSh (List.map kindOfV tab) = true ∨ ∀ (i : Nat), i < 1 → rowOb (List.map kindOfV tab) 0 (tabF tab i) (tabF tab i),
 0 = (jnO S (JO.mk 2 bl wd e ow bs kk th)).ln,
 IntKind.i64.wrap (bl + 1) = (jnO S (JO.mk 2 bl wd e ow bs kk th)).bl,
 mget S.M (key 7 bl 0) = (jnO S (JO.mk 2 bl wd e ow bs kk th)).wd,
 5 = (jnO S (JO.mk 2 bl wd e ow bs kk th)).e,
 ow = (jnO S (JO.mk 2 bl wd e ow bs kk th)).ow,
 bs = (jnO S (JO.mk 2 bl wd e ow bs kk th)).bs,
 kk = (jnO S (JO.mk 2 bl wd e ow bs kk th)).kk,
 th = (jnO S (JO.mk 2 bl wd e ow bs kk th)).th,
 IntKind.i64.wrap (S.st + 1) = (jnS S (JO.mk 2 bl wd e ow bs kk th)).st,
 (1 : Int) = 1,
 (7 : Int) = 7,
 bl = (jnS S (JO.mk 2 bl wd e ow bs kk th)).L.a,
 (0 : Int) = 0,
 mget S.M (key 7 bl 0) = (jnS S (JO.mk 2 bl wd e ow bs kk th)).L.w,
 mget S.M (key 7 bl 0) = (jnS S (JO.mk 2 bl wd e ow bs kk th)).L.i,
 false = (jnS S (JO.mk 2 bl wd e ow bs kk th)).L.d,
 ∀ (k : List Int), S.M k = (jnS S (JO.mk 2 bl wd e ow bs kk th)).M k,
 (IntKind.i64.wrap (bl + 1) == bs) = true,
 decide (bkN (mget S.M (key 7 bl 0)) < 4) = false,
 (!bkC (mget S.M (key 7 bl 0))) = true,
 TabIs tab (tabF tab),
 0 ≤ mget S.M (key 7 bl 0),
 mget S.M (key 7 bl 0) < 18446744073709551616]) := by kernel_rfl
theorem jn2d_loc (bl : Int) (wd : Int) (e : Int) (ow : Int) (bs : Int) (kk : Int) (th : Int) (S : MS) (FT : Nat → Nat → AV) : LocOk Tryd.prog 73 [.ptr 1 0 0, .ptr 2 0 0] (jn2dH bl wd e ow bs kk th S FT) (jn2dR bl wd e ow bs kk th S FT) := by
  refine loc_of_call ETl_ok (fun hp => ?_)
  have hFT : FT = tabF tab := hp _ (List.mem_cons_self ..)
  have hu : U64 S := hp _ (List.mem_cons_of_mem _ (List.mem_cons_self ..))
  have hc : bkC (mget S.M (key 7 bl 0)) = false := hp _ (List.mem_cons_of_mem _ (List.mem_cons_of_mem _ (List.mem_cons_self ..)))
  have hn : ¬ bkN (mget S.M (key 7 bl 0)) < 4 := hp _ (List.mem_cons_of_mem _ (List.mem_cons_of_mem _ (List.mem_cons_of_mem _ (List.mem_cons_self ..))))
  have hb : IntKind.i64.wrap (bl + 1) = bs := hp _ (List.mem_cons_of_mem _ (List.mem_cons_of_mem _ (List.mem_cons_of_mem _ (List.mem_cons_of_mem _ (List.mem_cons_self ..)))))
  clear hp
  subst hFT
  have hx : ¬ (bkC (mget S.M (key 7 bl 0)) = false ∧ bkN (mget S.M (key 7 bl 0)) < 4) := fun c => hn c.2
  have q : jnO S ⟨2, bl, wd, e, ow, bs, kk, th⟩ = ⟨0, IntKind.i64.wrap (bl + 1), (mget S.M (key 7 bl 0)), 5, ow, bs, kk, th⟩ := (if_neg hx).trans (if_pos hb)
  have t1 : (!bkC (mget S.M (key 7 bl 0))) = true := by rw [hc]; rfl
  have t2 : decide (bkN (mget S.M (key 7 bl 0)) < 4) = false := decide_eq_false hn
  have t3 : (IntKind.i64.wrap (bl + 1) == bs) = true := eqT hb
  refine ⟨2000, _, _, _, jn2d_1 .., (ob_cons ?_ (ob_cons rfl (ob_cons (Nat.le_refl _) (ob_cons (.inl ⟨rfl, rfl⟩) (ob_cons ?_ (ob_cons ?_ (ob_cons ?_ (ob_cons ?_ (ob_cons ?_ (ob_cons ?_ (ob_cons ?_ (ob_cons ?_ (ob_cons ?_ (ob_cons rfl (ob_cons rfl (ob_cons ?_ (ob_cons rfl (ob_cons ?_ (ob_cons ?_ (ob_cons ?_ (ob_cons ?_ (ob_cons ?_ (ob_cons ?_ (ob_cons ?_ (ob_cons (tabIs_self _) (ob_cons ?_ (ob_cons ?_ ob_nil)))))))))))))))))))))))))))⟩
  · (rw [q]; rfl)
  · (rw [q]; done)
  · (rw [q]; done)
  · (rw [q]; done)
  · (rw [q]; done)
  · (rw [q]; done)
  · (rw [q]; done)
  · (rw [q]; done)
  · (rw [q]; done)
  · exact rfl
  · exact rfl
  · exact rfl
  · exact rfl
  · exact rfl
  · exact fun _ => rfl
  · with_reducible assumption
  · with_reducible assumption
  · with_reducible assumption
  · exact (hu _).1
  · exact (hu _).2
theorem jn2e_1 (bl : Int) (wd : Int) (e : Int) (ow : Int) (bs : Int) (kk : Int) (th : Int) (S : MS) : callB ETl 2000 73 [AV.ptr 1 0 0, AV.ptr 2 0 0] (jn2eH bl wd e ow bs kk th S (tabF tab)) (jn2eR bl wd e ow bs kk th S (tabF tab)) [] [Hint.b true, Hint.b false, Hint.b false] =
 some ([((2 : Int) == (0 : Int)) = decide ((jnO S (JO.mk (2 : Int) bl wd e ow bs kk th)).ln = (0 : Int)),
 true = true,
 (1 : Nat) ≤ (1 : Nat),
 tabF tab = tabF tab ∧ plainSh (List.map kindOfV tab) = true ∨ ∀ (i : Nat), i < 1 → rowOb (List.map kindOfV tab) 0 (tabF tab i) (tabF tab i),
 2 = (jnO S (JO.mk 2 bl wd e ow bs kk th)).ln,
 IntKind.i64.wrap (bl + 1) = (jnO S (JO.mk 2 bl wd e ow bs kk th)).bl,
 mget S.M (key 7 bl 0) = (jnO S (JO.mk 2 bl wd e ow bs kk th)).wd,
 e = (jnO S (JO.mk 2 bl wd e ow bs kk th)).e,
 ow = (jnO S (JO.mk 2 bl wd e ow bs kk th)).ow,
 bs = (jnO S (JO.mk 2 bl wd e ow bs kk th)).bs,
 kk = (jnO S (JO.mk 2 bl wd e ow bs kk th)).kk,
 th = (jnO S (JO.mk 2 bl wd e ow bs kk th)).th,
 IntKind.i64.wrap (S.st + 1) = (jnS S (JO.mk 2 bl wd e ow bs kk th)).st,
 (1 : Int) = 1,
 (7 : Int) = 7,
 bl = (jnS S (JO.mk 2 bl wd e ow bs kk th)).L.a,
 (0 : Int) = 0,
 mget S.M (key 7 bl 0) = (jnS S (JO.mk 2 bl wd e ow bs kk th)).L.w,
 mget S.M (key 7 bl 0) = (jnS S (JO.mk 2 bl wd e ow bs kk th)).L.i,
 false = (jnS S (JO.mk 2 bl wd e ow bs kk th)).L.d,
 ∀ (k : List Int), S.M k = (jnS S (JO.mk 2 bl wd e ow bs kk th)).M k,
 (IntKind.i64.wrap (bl + 1) == bs) = false,
 decide (bkN (mget S.M (key 7 bl 0)) < 4) = false,
 (!bkC (mget S.M (key 7 bl 0))) = true,
 TabIs tab (tabF tab),
 0 ≤ mget S.M (key 7 bl 0),
 mget S.M (key 7 bl 0) < 18446744073709551616]) := by kernel_rfl
theorem jn2e_loc (bl : Int) (wd : Int) (e : Int) (ow : Int) (bs : Int) (kk : Int) (th : Int) (S : MS) (FT : Nat → Nat → AV) : LocOk Tryd.prog 73 [.ptr 1 0 0, .ptr 2 0 0] (jn2eH bl wd e ow bs kk th S FT) (jn2eR bl wd e ow bs kk th S FT) := by
  refine loc_of_call ETl_ok (fun hp => ?_)
  have hFT : FT = tabF tab := hp _ (List.mem_cons_self ..)
  have hu : U64 S := hp _ (List.mem_cons_of_mem _ (List.mem_cons_self ..))
  have hc : bkC (mget S.M (key 7 bl 0)) = false := hp _ (List.mem_cons_of_mem _ (List.mem_cons_of_mem _ (List.mem_cons_self ..)))
  have hn : ¬ bkN (mget S.M (key 7 bl 0)) < 4 := hp _ (List.mem_cons_of_mem _ (List.mem_cons_of_mem _ (List.mem_cons_of_mem _ (List.mem_cons_self ..))))
  have hb : ¬ IntKind.i64.wrap (bl + 1) = bs := hp _ (List.mem_cons_of_mem _ (List.mem_cons_of_mem _ (List.mem_cons_of_mem _ (List.mem_cons_of_mem _ (List.mem_cons_self ..)))))
  clear hp
  subst hFT
  have hx : ¬ (bkC (mget S.M (key 7 bl 0)) = false ∧ bkN (mget S.M (key 7 bl 0)) < 4) := fun c => hn c.2
  have q : jnO S ⟨2, bl, wd, e, ow, bs, kk, th⟩ = ⟨2, IntKind.i64.wrap (bl + 1), (mget S.M (key 7 bl 0)), e, ow, bs, kk, th⟩ := (if_neg hx).trans (if_neg hb)
  have t1 : (!bkC (mget S.M (key 7 bl 0))) = true := by rw [hc]; rfl
  have t2 : decide (bkN (mget S.M (key 7 bl 0)) < 4) = false := decide_eq_false hn
  have t3 : (IntKind.i64.wrap (bl + 1) == bs) = false := eqF hb
  refine ⟨2000, _, _, _, jn2e_1 .., (ob_cons ?_ (ob_cons rfl (ob_cons (Nat.le_refl _) (ob_cons (.inl ⟨rfl, rfl⟩) (ob_cons ?_ (ob_cons ?_ (ob_cons ?_ (ob_cons ?_ (ob_cons ?_ (ob_cons ?_ (ob_cons ?_ (ob_cons ?_ (ob_cons ?_ (ob_cons rfl (ob_cons rfl (ob_cons ?_ (ob_cons rfl (ob_cons ?_ (ob_cons ?_ (ob_cons ?_ (ob_cons ?_ (ob_cons ?_ (ob_cons ?_ (ob_cons ?_ (ob_cons (tabIs_self _) (ob_cons ?_ (ob_cons ?_ ob_nil)))))))))))))))))))))))))))⟩
  · (rw [q]; rfl)
  · (rw [q]; done)
  · (rw [q]; done)
  · (rw [q]; done)
  · (rw [q]; done)
  · (rw [q]; done)
  · (rw [q]; done)
  · (rw [q]; done)
  · (rw [q]; done)
  · exact rfl
  · exact rfl
  · exact rfl
  · exact rfl
  · exact rfl
  · exact fun _ => rfl
  · with_reducible assumption
  · with_reducible assumption
  · with_reducible assumption
  · exact (hu _).1
  · exact (hu _).2
theorem jn3a_1 (bl : Int) (wd : Int) (e : Int) (ow : Int) (bs : Int) (kk : Int) (th : Int) (S : MS) : callB ETl 2000 73 [AV.ptr 1 0 0, AV.ptr 2 0 0] (jn3aH bl wd e ow bs kk th S (tabF tab)) (jn3aR bl wd e ow bs kk th S (tabF tab)) [] [Hint.b true] =
 some ([((4 : Int) == (0 : Int)) = decide ((jnO S (JO.mk (3 : Int) bl wd e ow bs kk th)).ln = (0 : Int)),
 true = true,
 (1 : Nat) ≤ (1 : Nat),
 tabF tab = tabF tab ∧ plainSh (List.map kindOfV tab) = true ∨ ∀ (i : Nat), i < 1 → rowOb (List.map kindOfV tab) 0 (tabF tab i) (tabF tab i),
 4 = (jnO S (JO.mk 3 bl wd e ow bs kk th)).ln,
 bl = (jnO S (JO.mk 3 bl wd e ow bs kk th)).bl,
 wd = (jnO S (JO.mk 3 bl wd e ow bs kk th)).wd,
 e = (jnO S (JO.mk 3 bl wd e ow bs kk th)).e,
 ow = (jnO S (JO.mk 3 bl wd e ow bs kk th)).ow,
 bs = (jnO S (JO.mk 3 bl wd e ow bs kk th)).bs,
 0 = (jnO S (JO.mk 3 bl wd e ow bs kk th)).kk,
 th = (jnO S (JO.mk 3 bl wd e ow bs kk th)).th,
 IntKind.i64.wrap (S.st + 1) = (jnS S (JO.mk 3 bl wd e ow bs kk th)).st,
 (3 : Int) = 3,
 (7 : Int) = 7,
 bl = (jnS S (JO.mk 3 bl wd e ow bs kk th)).L.a,
 (0 : Int) = 0,
 mget S.M (key 7 bl 0) = (jnS S (JO.mk 3 bl wd e ow bs kk th)).L.w,
 casI S.M 7 bl 0 wd (bk (IntKind.u32.wrap (bkN wd + 1)) (bkC wd)) = (jnS S (JO.mk 3 bl wd e ow bs kk th)).L.i,
 casD S.M 7 bl 0 wd = (jnS S (JO.mk 3 bl wd e ow bs kk th)).L.d,
 ∀ (k : List Int), casM S.M 7 bl 0 wd (bk (IntKind.u32.wrap (bkN wd + 1)) (bkC wd)) k = (jnS S (JO.mk 3 bl wd e ow bs kk th)).M k,
 casD S.M 7 bl 0 wd = true,
 (0 : Int) ≤ (7 : Int),
 TabIs tab (tabF tab),
 0 ≤ IntKind.u32.wrap (bkN wd + 1),
 IntKind.u32.wrap (bkN wd + 1) < 4294967296,
 TabIs tab (tabF tab),
 0 ≤ wd,
 wd < 18446744073709551616]) := by kernel_rfl
theorem jn3a_loc (bl : Int) (wd : Int) (e : Int) (ow : Int) (bs : Int) (kk : Int) (th : Int) (S : MS) (FT : Nat → Nat → AV) : LocOk Tryd.prog 73 [.ptr 1 0 0, .ptr 2 0 0] (jn3aH bl wd e ow bs kk th S FT) (jn3aR bl wd e ow bs kk th S FT) := by
  refine loc_of_call ETl_ok (fun hp => ?_)
  have hFT : FT = tabF tab := hp _ (List.mem_cons_self ..)
  have hu : U64 S := hp _ (List.mem_cons_of_mem _ (List.mem_cons_self ..))
  have hh : R64 wd := hp _ (List.mem_cons_of_mem _ (List.mem_cons_of_mem _ (List.mem_cons_self ..)))
  have hs : casD S.M 7 bl 0 wd = true := hp _ (List.mem_cons_of_mem _ (List.mem_cons_of_mem _ (List.mem_cons_of_mem _ (List.mem_cons_self ..))))
  clear hp
  subst hFT
  have q : jnO S ⟨3, bl, wd, e, ow, bs, kk, th⟩ = ⟨4, bl, wd, e, ow, bs, 0, th⟩ := if_pos hs
  refine ⟨2000, _, _, _, jn3a_1 .., (ob_cons ?_ (ob_cons rfl (ob_cons (Nat.le_refl _) (ob_cons (.inl ⟨rfl, rfl⟩) (ob_cons ?_ (ob_cons ?_ (ob_cons ?_ (ob_cons ?_ (ob_cons ?_ (ob_cons ?_ (ob_cons ?_ (ob_cons ?_ (ob_cons ?_ (ob_cons rfl (ob_cons rfl (ob_cons ?_ (ob_cons rfl (ob_cons ?_ (ob_cons ?_ (ob_cons ?_ (ob_cons ?_ (ob_cons ?_ (ob_cons (by decide) (ob_cons (tabIs_self _) (ob_cons ?_ (ob_cons ?_ (ob_cons (tabIs_self _) (ob_cons ?_ (ob_cons ?_ ob_nil)))))))))))))))))))))))))))))⟩
  · (rw [q]; rfl)
  · (rw [q]; done)
  · (rw [q]; done)
  · (rw [q]; done)
  · (rw [q]; done)
  · (rw [q]; done)
  · (rw [q]; done)
  · (rw [q]; done)
  · (rw [q]; done)
  · exact rfl
  · exact rfl
  · exact rfl
  · exact rfl
  · exact rfl
  · exact fun _ => rfl
  · with_reducible assumption
  · exact (tMore_r _).1
  · exact (tMore_r _).2
  · exact hh.1
  · exact hh.2
theorem jn3b_1 (bl : Int) (wd : Int) (e : Int) (ow : Int) (bs : Int) (kk : Int) (th : Int) (S : MS) : callB ETl 2000 73 [AV.ptr 1 0 0, AV.ptr 2 0 0] (jn3bH bl wd e ow bs kk th S (tabF tab)) (jn3bR bl wd e ow bs kk th S (tabF tab)) [] [Hint.b false] =
 some ([((2 : Int) == (0 : Int)) = decide ((jnO S (JO.mk (3 : Int) bl wd e ow bs kk th)).ln = (0 : Int)),
 true = true,
 (1 : Nat) ≤ (1 : Nat),
 tabF tab = tabF tab ∧ plainSh (List.map kindOfV tab) = true ∨ ∀ (i : Nat), i < 1 → rowOb (List.map kindOfV tab) 0 (tabF tab i) (tabF tab i),
 2 = (jnO S (JO.mk 3 bl wd e ow bs kk th)).ln,
 bl = (jnO S (JO.mk 3 bl wd e ow bs kk th)).bl,
 wd = (jnO S (JO.mk 3 bl wd e ow bs kk th)).wd,
 e = (jnO S (JO.mk 3 bl wd e ow bs kk th)).e,
 ow = (jnO S (JO.mk 3 bl wd e ow bs kk th)).ow,
 bs = (jnO S (JO.mk 3 bl wd e ow bs kk th)).bs,
 kk = (jnO S (JO.mk 3 bl wd e ow bs kk th)).kk,
 th = (jnO S (JO.mk 3 bl wd e ow bs kk th)).th,
 IntKind.i64.wrap (S.st + 1) = (jnS S (JO.mk 3 bl wd e ow bs kk th)).st,
 (3 : Int) = 3,
 (7 : Int) = 7,
 bl = (jnS S (JO.mk 3 bl wd e ow bs kk th)).L.a,
 (0 : Int) = 0,
 mget S.M (key 7 bl 0) = (jnS S (JO.mk 3 bl wd e ow bs kk th)).L.w,
 casI S.M 7 bl 0 wd (bk (IntKind.u32.wrap (bkN wd + 1)) (bkC wd)) = (jnS S (JO.mk 3 bl wd e ow bs kk th)).L.i,
 casD S.M 7 bl 0 wd = (jnS S (JO.mk 3 bl wd e ow bs kk th)).L.d,
 ∀ (k : List Int), casM S.M 7 bl 0 wd (bk (IntKind.u32.wrap (bkN wd + 1)) (bkC wd)) k = (jnS S (JO.mk 3 bl wd e ow bs kk th)).M k,
 casD S.M 7 bl 0 wd = false,
 (0 : Int) ≤ (7 : Int),
 TabIs tab (tabF tab),
 0 ≤ IntKind.u32.wrap (bkN wd + 1),
 IntKind.u32.wrap (bkN wd + 1) < 4294967296,
 TabIs tab (tabF tab),
 0 ≤ wd,
 wd < 18446744073709551616]) := by kernel_rfl
theorem jn3b_loc (bl : Int) (wd : Int) (e : Int) (ow : Int) (bs : Int) (kk : Int) (th : Int) (S : MS) (FT : Nat → Nat → AV) : LocOk Tryd.prog 73 [.ptr 1 0 0, .ptr 2 0 0] (jn3bH bl wd e ow bs kk th S FT) (jn3bR bl wd e ow bs kk th S FT) := by
  refine loc_of_call ETl_ok (fun hp => ?_)
  have hFT : FT = tabF tab := hp _ (List.mem_cons_self ..)
  have hu : U64 S := hp _ (List.mem_cons_of_mem _ (List.mem_cons_self ..))
  have hh : R64 wd := hp _ (List.mem_cons_of_mem _ (List.mem_cons_of_mem _ (List.mem_cons_self ..)))
  have hs : ¬ casD S.M 7 bl 0 wd = true := hp _ (List.mem_cons_of_mem _ (List.mem_cons_of_mem _ (List.mem_cons_of_mem _ (List.mem_cons_self ..))))
  clear hp
  subst hFT
  have q : jnO S ⟨3, bl, wd, e, ow, bs, kk, th⟩ = ⟨2, bl, wd, e, ow, bs, kk, th⟩ := if_neg hs
  have t1 : casD S.M 7 bl 0 wd = false := by simpa using hs
  refine ⟨2000, _, _, _, jn3b_1 .., (ob_cons ?_ (ob_cons rfl (ob_cons (Nat.le_refl _) (ob_cons (.inl ⟨rfl, rfl⟩) (ob_cons ?_ (ob_cons ?_ (ob_cons ?_ (ob_cons ?_ (ob_cons ?_ (ob_cons ?_ (ob_cons ?_ (ob_cons ?_ (ob_cons ?_ (ob_cons rfl (ob_cons rfl (ob_cons ?_ (ob_cons rfl (ob_cons ?_ (ob_cons ?_ (ob_cons ?_ (ob_cons ?_ (ob_cons ?_ (ob_cons (by decide) (ob_cons (tabIs_self _) (ob_cons ?_ (ob_cons ?_ (ob_cons (tabIs_self _) (ob_cons ?_ (ob_cons ?_ ob_nil)))))))))))))))))))))))))))))⟩
  · (rw [q]; rfl)
  · (rw [q]; done)
  · (rw [q]; done)
  · (rw [q]; done)
  · (rw [q]; done)
  · (rw [q]; done)
  · (rw [q]; done)
  · (rw [q]; done)
  · (rw [q]; done)
  · exact rfl
  · exact rfl
  · exact rfl
  · exact rfl
  · exact rfl
  · exact fun _ => rfl
  · with_reducible assumption
  · exact (tMore_r _).1
  · exact (tMore_r _).2
  · exact hh.1
  · exact hh.2
theorem jn4a_1 (bl : Int) (wd : Int) (e : Int) (ow : Int) (bs : Int) (kk : Int) (th : Int) (S : MS) : callB ETl 2000 73 [AV.ptr 1 0 0, AV.ptr 2 0 0] (jn4aH bl wd e ow bs kk th S (tabF tab)) (jn4aR bl wd e ow bs kk th S (tabF tab)) [] [Hint.b true] =
 some ([((5 : Int) == (0 : Int)) = decide ((jnO S (JO.mk (4 : Int) bl wd e ow bs kk th)).ln = (0 : Int)),
 true = true,
 (1 : Nat) ≤ (1 : Nat),
 tabF tab = tabF tab ∧ plainSh (List.map kindOfV tab) = true ∨ ∀ (i : Nat), i < 1 → rowOb (List.map kindOfV tab) 0 (tabF tab i) (tabF tab i),
 5 = (jnO S (JO.mk 4 bl wd e ow bs kk th)).ln,
 bl = (jnO S (JO.mk 4 bl wd e ow bs kk th)).bl,
 wd = (jnO S (JO.mk 4 bl wd e ow bs kk th)).wd,
 e = (jnO S (JO.mk 4 bl wd e ow bs kk th)).e,
 ow = (jnO S (JO.mk 4 bl wd e ow bs kk th)).ow,
 bs = (jnO S (JO.mk 4 bl wd e ow bs kk th)).bs,
 1 = (jnO S (JO.mk 4 bl wd e ow bs kk th)).kk,
 IntKind.i64.wrap (IntKind.i64.wrap (bl * 4) + kk) = (jnO S (JO.mk 4 bl wd e ow bs kk th)).th,
 IntKind.i64.wrap (S.st + 1) = (jnS S (JO.mk 4 bl wd e ow bs kk th)).st,
 (3 : Int) = 3,
 (8 : Int) = 8,
 IntKind.i64.wrap (IntKind.i64.wrap (bl * 4) + kk) = (jnS S (JO.mk 4 bl wd e ow bs kk th)).L.a,
 (0 : Int) = 0,
 mget S.M (key 8 (IntKind.i64.wrap (IntKind.i64.wrap (bl * 4) + kk)) 0) = (jnS S (JO.mk 4 bl wd e ow bs kk th)).L.w,
 casI S.M 8 (IntKind.i64.wrap (IntKind.i64.wrap (bl * 4) + kk)) 0 0 ow = (jnS S (JO.mk 4 bl wd e ow bs kk th)).L.i,
 casD S.M 8 (IntKind.i64.wrap (IntKind.i64.wrap (bl * 4) + kk)) 0 0 = (jnS S (JO.mk 4 bl wd e ow bs kk th)).L.d,
 ∀ (k : List Int), casM S.M 8 (IntKind.i64.wrap (IntKind.i64.wrap (bl * 4) + kk)) 0 0 ow k = (jnS S (JO.mk 4 bl wd e ow bs kk th)).M k,
 casD S.M 8 (IntKind.i64.wrap (IntKind.i64.wrap (bl * 4) + kk)) 0 0 = true,
 (0 : Int) ≤ (8 : Int)]) := by kernel_rfl
theorem jn4a_loc (bl : Int) (wd : Int) (e : Int) (ow : Int) (bs : Int) (kk : Int) (th : Int) (S : MS) (FT : Nat → Nat → AV) : LocOk Tryd.prog 73 [.ptr 1 0 0, .ptr 2 0 0] (jn4aH bl wd e ow bs kk th S FT) (jn4aR bl wd e ow bs kk th S FT) := by
  refine loc_of_call ETl_ok (fun hp => ?_)
  have hFT : FT = tabF tab := hp _ (List.mem_cons_self ..)
  have hu : U64 S := hp _ (List.mem_cons_of_mem _ (List.mem_cons_self ..))
  have hs : casD S.M 8 (IntKind.i64.wrap (IntKind.i64.wrap (bl * 4) + kk)) 0 0 = true := hp _ (List.mem_cons_of_mem _ (List.mem_cons_of_mem _ (List.mem_cons_self ..)))
  clear hp
  subst hFT
  have q : jnO S ⟨4, bl, wd, e, ow, bs, kk, th⟩ = ⟨5, bl, wd, e, ow, bs, 1, (IntKind.i64.wrap (IntKind.i64.wrap (bl * 4) + kk))⟩ := if_pos hs
  refine ⟨2000, _, _, _, jn4a_1 .., (ob_cons ?_ (ob_cons rfl (ob_cons (Nat.le_refl _) (ob_cons (.inl ⟨rfl, rfl⟩) (ob_cons ?_ (ob_cons ?_ (ob_cons ?_ (ob_cons ?_ (ob_cons ?_ (ob_cons ?_ (ob_cons ?_ (ob_cons ?_ (ob_cons ?_ (ob_cons rfl (ob_cons rfl (ob_cons ?_ (ob_cons rfl (ob_cons ?_ (ob_cons ?_ (ob_cons ?_ (ob_cons ?_ (ob_cons ?_ (ob_cons (by decide) ob_nil)))))))))))))))))))))))⟩
  · (rw [q]; rfl)
  · (rw [q]; done)
  · (rw [q]; done)
  · (rw [q]; done)
  · (rw [q]; done)
  · (rw [q]; done)
  · (rw [q]; done)
  · (rw [q]; done)
  · (rw [q]; done)
  · exact rfl
  · exact rfl
  · exact rfl
  · exact rfl
  · exact rfl
  · exact fun _ => rfl
  · with_reducible assumption
theorem jn4b_1 (bl : Int) (wd : Int) (e : Int) (ow : Int) (bs : Int) (kk : Int) (th : Int) (S : MS) : callB ETl 2000 73 [AV.ptr 1 0 0, AV.ptr 2 0 0] (jn4bH bl wd e ow bs kk th S (tabF tab)) (jn4bR bl wd e ow bs kk th S (tabF tab)) [] [Hint.b false, Hint.b true] =
 some ([((6 : Int) == (0 : Int)) = decide ((jnO S (JO.mk (4 : Int) bl wd e ow bs kk th)).ln = (0 : Int)),
 true = true,
 (1 : Nat) ≤ (1 : Nat),
 tabF tab = tabF tab ∧ plainSh (List.map kindOfV tab) = true ∨ ∀ (i : Nat), i < 1 → rowOb (List.map kindOfV tab) 0 (tabF tab i) (tabF tab i),
 6 = (jnO S (JO.mk 4 bl wd e ow bs kk th)).ln,
 bl = (jnO S (JO.mk 4 bl wd e ow bs kk th)).bl,
 wd = (jnO S (JO.mk 4 bl wd e ow bs kk th)).wd,
 e = (jnO S (JO.mk 4 bl wd e ow bs kk th)).e,
 ow = (jnO S (JO.mk 4 bl wd e ow bs kk th)).ow,
 bs = (jnO S (JO.mk 4 bl wd e ow bs kk th)).bs,
 IntKind.i64.wrap (kk + 1) = (jnO S (JO.mk 4 bl wd e ow bs kk th)).kk,
 th = (jnO S (JO.mk 4 bl wd e ow bs kk th)).th,
 IntKind.i64.wrap (S.st + 1) = (jnS S (JO.mk 4 bl wd e ow bs kk th)).st,
 (3 : Int) = 3,
 (8 : Int) = 8,
 IntKind.i64.wrap (IntKind.i64.wrap (bl * 4) + kk) = (jnS S (JO.mk 4 bl wd e ow bs kk th)).L.a,
 (0 : Int) = 0,
 mget S.M (key 8 (IntKind.i64.wrap (IntKind.i64.wrap (bl * 4) + kk)) 0) = (jnS S (JO.mk 4 bl wd e ow bs kk th)).L.w,
 casI S.M 8 (IntKind.i64.wrap (IntKind.i64.wrap (bl * 4) + kk)) 0 0 ow = (jnS S (JO.mk 4 bl wd e ow bs kk th)).L.i,
 casD S.M 8 (IntKind.i64.wrap (IntKind.i64.wrap (bl * 4) + kk)) 0 0 = (jnS S (JO.mk 4 bl wd e ow bs kk th)).L.d,
 ∀ (k : List Int), casM S.M 8 (IntKind.i64.wrap (IntKind.i64.wrap (bl * 4) + kk)) 0 0 ow k = (jnS S (JO.mk 4 bl wd e ow bs kk th)).M k,
 (IntKind.i64.wrap (kk + 1) == 4) = true,
 casD S.M 8 (IntKind.i64.wrap (IntKind.i64.wrap (bl * 4) + kk)) 0 0 = false,
 (0 : Int) ≤ (8 : Int)]) := by kernel_rfl
theorem jn4b_loc (bl : Int) (wd : Int) (e : Int) (ow : Int) (bs : Int) (kk : Int) (th : Int) (S : MS) (FT : Nat → Nat → AV) : LocOk Tryd.prog 73 [.ptr 1 0 0, .ptr 2 0 0] (jn4bH bl wd e ow bs kk th S FT) (jn4bR bl wd e ow bs kk th S FT) := by
  refine loc_of_call ETl_ok (fun hp => ?_)
  have hFT : FT = tabF tab := hp _ (List.mem_cons_self ..)
  have hu : U64 S := hp _ (List.mem_cons_of_mem _ (List.mem_cons_self ..))
  have hs : ¬ casD S.M 8 (IntKind.i64.wrap (IntKind.i64.wrap (bl * 4) + kk)) 0 0 = true := hp _ (List.mem_cons_of_mem _ (List.mem_cons_of_mem _ (List.mem_cons_self ..)))
  have hb : IntKind.i64.wrap (kk + 1) = 4 := hp _ (List.mem_cons_of_mem _ (List.mem_cons_of_mem _ (List.mem_cons_of_mem _ (List.mem_cons_self ..))))
  clear hp
  subst hFT
  have q : jnO S ⟨4, bl, wd, e, ow, bs, kk, th⟩ = ⟨6, bl, wd, e, ow, bs, IntKind.i64.wrap (kk + 1), th⟩ := (if_neg hs).trans (if_pos hb)
  have t1 : casD S.M 8 (IntKind.i64.wrap (IntKind.i64.wrap (bl * 4) + kk)) 0 0 = false := by simpa using hs
  have t2 : (IntKind.i64.wrap (kk + 1) == 4) = true := eqT hb
  refine ⟨2000, _, _, _, jn4b_1 .., (ob_cons ?_ (ob_cons rfl (ob_cons (Nat.le_refl _) (ob_cons (.inl ⟨rfl, rfl⟩) (ob_cons ?_ (ob_cons ?_ (ob_cons ?_ (ob_cons ?_ (ob_cons ?_ (ob_cons ?_ (ob_cons ?_ (ob_cons ?_ (ob_cons ?_ (ob_cons rfl (ob_cons rfl (ob_cons ?_ (ob_cons rfl (ob_cons ?_ (ob_cons ?_ (ob_cons ?_ (ob_cons ?_ (ob_cons ?_ (ob_cons ?_ (ob_cons (by decide) ob_nil))))))))))))))))))))))))⟩
  · (rw [q]; rfl)
  · (rw [q]; done)
  · (rw [q]; done)
  · (rw [q]; done)
  · (rw [q]; done)
  · (rw [q]; done)
  · (rw [q]; done)
  · (rw [q]; done)
  · (rw [q]; done)
  · exact rfl
  · exact rfl
  · exact rfl
  · exact rfl
  · exact rfl
  · exact fun _ => rfl
  · with_reducible assumption
  · with_reducible assumption
theorem jn4c_1 (bl : Int) (wd : Int) (e : Int) (ow : Int) (bs : Int) (kk : Int) (th : Int) (S : MS) : callB ETl 2000 73 [AV.ptr 1 0 0, AV.ptr 2 0 0] (jn4cH bl wd e ow bs kk th S (tabF tab)) (jn4cR bl wd e ow bs kk th S (tabF tab)) [] [Hint.b false, Hint.b false] =
 some ([((4 : Int) == (0 : Int)) = decide ((jnO S (JO.mk (4 : Int) bl wd e ow bs kk th)).ln = (0 : Int)),
 true = true,
 (1 : Nat) ≤ (1 : Nat),
 tabF tab = tabF tab ∧ plainSh (List.map kindOfV tab) = true ∨ ∀ (i : Nat), i < 1 → rowOb (List.map kindOfV tab) 0 (tabF tab i) (tabF tab i),
 4 = (jnO S (JO.mk 4 bl wd e ow bs kk th)).ln,
 bl = (jnO S (JO.mk 4 bl wd e ow bs kk th)).bl,
 wd = (jnO S (JO.mk 4 bl wd e ow bs kk th)).wd,
 e = (jnO S (JO.mk 4 bl wd e ow bs kk th)).e,
 ow = (jnO S (JO.mk 4 bl wd e ow bs kk th)).ow,
 bs = (jnO S (JO.mk 4 bl wd e ow bs kk th)).bs,
 IntKind.i64.wrap (kk + 1) = (jnO S (JO.mk 4 bl wd e ow bs kk th)).kk,
 th = (jnO S (JO.mk 4 bl wd e ow bs kk th)).th,
 IntKind.i64.wrap (S.st + 1) = (jnS S (JO.mk 4 bl wd e ow bs kk th)).st,
 (3 : Int) = 3,
 (8 : Int) = 8,
 IntKind.i64.wrap (IntKind.i64.wrap (bl * 4) + kk) = (jnS S (JO.mk 4 bl wd e ow bs kk th)).L.a,
 (0 : Int) = 0,
 mget S.M (key 8 (IntKind.i64.wrap (IntKind.i64.wrap (bl * 4) + kk)) 0) = (jnS S (JO.mk 4 bl wd e ow bs kk th)).L.w,
 casI S.M 8 (IntKind.i64.wrap (IntKind.i64.wrap (bl * 4) + kk)) 0 0 ow = (jnS S (JO.mk 4 bl wd e ow bs kk th)).L.i,
 casD S.M 8 (IntKind.i64.wrap (IntKind.i64.wrap (bl * 4) + kk)) 0 0 = (jnS S (JO.mk 4 bl wd e ow bs kk th)).L.d,
 ∀ (k : List Int), casM S.M 8 (IntKind.i64.wrap (IntKind.i64.wrap (bl * 4) + kk)) 0 0 ow k = (jnS S (JO.mk 4 bl wd e ow bs kk th)).M k,
 (IntKind.i64.wrap (kk + 1) == 4) = false,
 casD S.M 8 (IntKind.i64.wrap (IntKind.i64.wrap (bl * 4) + kk)) 0 0 = false,
 (0 : Int) ≤ (8 : Int)]) := by kernel_rfl
theorem jn4c_loc (bl : Int) (wd : Int) (e : Int) (ow : Int) (bs : Int) (kk : Int) (th : Int) (S : MS) (FT : Nat → Nat → AV) : LocOk Tryd.prog 73 [.ptr 1 0 0, .ptr 2 0 0] (jn4cH bl wd e ow bs kk th S FT) (jn4cR bl wd e ow bs kk th S FT) := by
  refine loc_of_call ETl_ok (fun hp => ?_)
  have hFT : FT = tabF tab := hp _ (List.mem_cons_self ..)
  have hu : U64 S := hp _ (List.mem_cons_of_mem _ (List.mem_cons_self ..))
  have hs : ¬ casD S.M 8 (IntKind.i64.wrap (IntKind.i64.wrap (bl * 4) + kk)) 0 0 = true := hp _ (List.mem_cons_of_mem _ (List.mem_cons_of_mem _ (List.mem_cons_self ..)))
  have hb : ¬ IntKind.i64.wrap (kk + 1) = 4 := hp _ (List.mem_cons_of_mem _ (List.mem_cons_of_mem _ (List.mem_cons_of_mem _ (List.mem_cons_self ..))))
  clear hp
  subst hFT
  have q : jnO S ⟨4, bl, wd, e, ow, bs, kk, th⟩ = ⟨4, bl, wd, e, ow, bs, IntKind.i64.wrap (kk + 1), th⟩ := (if_neg hs).trans (if_neg hb)
  have t1 : casD S.M 8 (IntKind.i64.wrap (IntKind.i64.wrap (bl * 4) + kk)) 0 0 = false := by simpa using hs
  have t2 : (IntKind.i64.wrap (kk + 1) == 4) = false := eqF hb
  refine ⟨2000, _, _, _, jn4c_1 .., (ob_cons ?_ (ob_cons rfl (ob_cons (Nat.le_refl _) (ob_cons (.inl ⟨rfl, rfl⟩) (ob_cons ?_ (ob_cons ?_ (ob_cons ?_ (ob_cons ?_ (ob_cons ?_ (ob_cons ?_ (ob_cons ?_ (ob_cons ?_ (ob_cons ?_ (ob_cons rfl (ob_cons rfl (ob_cons ?_ (ob_cons rfl (ob_cons ?_ (ob_cons ?_ (ob_cons ?_ (ob_cons ?_ (ob_cons ?_ (ob_cons ?_ (ob_cons (by decide) ob_nil))))))))))))))))))))))))⟩
  · (rw [q]; rfl)
  · (rw [q]; done)
  · (rw [q]; done)
  · (rw [q]; done)
  · (rw [q]; done)
  · (rw [q]; done)
  · (rw [q]; done)
  · (rw [q]; done)
  · (rw [q]; done)
  · exact rfl
  · exact rfl
  · exact rfl
  · exact rfl
  · exact rfl
  · exact fun _ => rfl
  · with_reducible assumption
  · with_reducible assumption
theorem jn5a_1 (bl : Int) (wd : Int) (e : Int) (ow : Int) (bs : Int) (kk : Int) (th : Int) (S : MS) : callB ETl 2000 73 [AV.ptr 1 0 0, AV.ptr 2 0 0] (jn5aH bl wd e ow bs kk th S (tabF tab)) (jn5aR bl wd e ow bs kk th S (tabF tab)) [] [Hint.b true] =
 some ([((0 : Int) == (0 : Int)) = decide ((jnO S (JO.mk (5 : Int) bl wd e ow bs kk th)).ln = (0 : Int)),
 true = true,
 (1 : Nat) ≤ (1 : Nat),
 tabF tab = tabF tab ∧ plainSh (List.map kindOfV tab) = true ∨ ∀ (i : Nat), i < 1 → rowOb (List.map kindOfV tab) 0 (tabF tab i) (tabF tab i),
 0 = (jnO S (JO.mk 5 bl wd e ow bs kk th)).ln,
 bl = (jnO S (JO.mk 5 bl wd e ow bs kk th)).bl,
 wd = (jnO S (JO.mk 5 bl wd e ow bs kk th)).wd,
 0 = (jnO S (JO.mk 5 bl wd e ow bs kk th)).e,
 ow = (jnO S (JO.mk 5 bl wd e ow bs kk th)).ow,
 bs = (jnO S (JO.mk 5 bl wd e ow bs kk th)).bs,
 IntKind.i64.wrap (kk + 1) = (jnO S (JO.mk 5 bl wd e ow bs kk th)).kk,
 th = (jnO S (JO.mk 5 bl wd e ow bs kk th)).th,
 IntKind.i64.wrap (S.st + 1) = (jnS S (JO.mk 5 bl wd e ow bs kk th)).st,
 (2 : Int) = 2,
 (8 : Int) = 8,
 th = (jnS S (JO.mk 5 bl wd e ow bs kk th)).L.a,
 kk = (jnS S (JO.mk 5 bl wd e ow bs kk th)).L.f,
 mget S.M (key 8 th kk) = (jnS S (JO.mk 5 bl wd e ow bs kk th)).L.w,
 memIs S.M 8 th kk 0 = (jnS S (JO.mk 5 bl wd e ow bs kk th)).L.i,
 false = (jnS S (JO.mk 5 bl wd e ow bs kk th)).L.d,
 ∀ (k : List Int), memPut S.M 8 th kk 0 k = (jnS S (JO.mk 5 bl wd e ow bs kk th)).M k,
 (IntKind.i64.wrap (kk + 1) == 10) = true,
 (0 : Int) ≤ (8 : Int)]) := by kernel_rfl
theorem jn5a_loc (bl : Int) (wd : Int) (e : Int) (ow : Int) (bs : Int) (kk : Int) (th : Int) (S : MS) (FT : Nat → Nat → AV) : LocOk Tryd.prog 73 [.ptr 1 0 0, .ptr 2 0 0] (jn5aH bl wd e ow bs kk th S FT) (jn5aR bl wd e ow bs kk th S FT) := by
  refine loc_of_call ETl_ok (fun hp => ?_)
  have hFT : FT = tabF tab := hp _ (List.mem_cons_self ..)
  have hu : U64 S := hp _ (List.mem_cons_of_mem _ (List.mem_cons_self ..))
  have hs : IntKind.i64.wrap (kk + 1) = 10 := hp _ (List.mem_cons_of_mem _ (List.mem_cons_of_mem _ (List.mem_cons_self ..)))
  clear hp
  subst hFT
  have q : jnO S ⟨5, bl, wd, e, ow, bs, kk, th⟩ = ⟨0, bl, wd, 0, ow, bs, IntKind.i64.wrap (kk + 1), th⟩ := if_pos hs
  have t1 : (IntKind.i64.wrap (kk + 1) == 10) = true := eqT hs
  refine ⟨2000, _, _, _, jn5a_1 .., (ob_cons ?_ (ob_cons rfl (ob_cons (Nat.le_refl _) (ob_cons (.inl ⟨rfl, rfl⟩) (ob_cons ?_ (ob_cons ?_ (ob_cons ?_ (ob_cons ?_ (ob_cons ?_ (ob_cons ?_ (ob_cons ?_ (ob_cons ?_ (ob_cons ?_ (ob_cons rfl (ob_cons rfl (ob_cons ?_ (ob_cons ?_ (ob_cons ?_ (ob_cons ?_ (ob_cons ?_ (ob_cons ?_ (ob_cons ?_ (ob_cons (by decide) ob_nil)))))))))))))))))))))))⟩
  · (rw [q]; rfl)
  · (rw [q]; done)
  · (rw [q]; done)
  · (rw [q]; done)
  · (rw [q]; done)
  · (rw [q]; done)
  · (rw [q]; done)
  · (rw [q]; done)
  · (rw [q]; done)
  · exact rfl
  · exact rfl
  · exact rfl
  · exact rfl
  · exact rfl
  · exact rfl
  · exact fun _ => rfl
  · with_reducible assumption
theorem jn5b_1 (bl : Int) (wd : Int) (e : Int) (ow : Int) (bs : Int) (kk : Int) (th : Int) (S : MS) : callB ETl 2000 73 [AV.ptr 1 0 0, AV.ptr 2 0 0] (jn5bH bl wd e ow bs kk th S (tabF tab)) (jn5bR bl wd e ow bs kk th S (tabF tab)) [] [Hint.b false] =
 some ([((5 : Int) == (0 : Int)) = decide ((jnO S (JO.mk (5 : Int) bl wd e ow bs kk th)).ln = (0 : Int)),
 true = true,
 (1 : Nat) ≤ (1 : Nat),
 tabF tab = tabF tab ∧ plainSh (List.map kindOfV tab) = true ∨ ∀ (i : Nat), i < 1 → rowOb (List.map kindOfV tab) 0 (tabF tab i) (tabF tab i),
 5 = (jnO S (JO.mk 5 bl wd e ow bs kk th)).ln,
 bl = (jnO S (JO.mk 5 bl wd e ow bs kk th)).bl,
 wd = (jnO S (JO.mk 5 bl wd e ow bs kk th)).wd,
 e = (jnO S (JO.mk 5 bl wd e ow bs kk th)).e,
 ow = (jnO S (JO.mk 5 bl wd e ow bs kk th)).ow,
 bs = (jnO S (JO.mk 5 bl wd e ow bs kk th)).bs,
 IntKind.i64.wrap (kk + 1) = (jnO S (JO.mk 5 bl wd e ow bs kk th)).kk,
 th = (jnO S (JO.mk 5 bl wd e ow bs kk th)).th,
 IntKind.i64.wrap (S.st + 1) = (jnS S (JO.mk 5 bl wd e ow bs kk th)).st,
 (2 : Int) = 2,
 (8 : Int) = 8,
 th = (jnS S (JO.mk 5 bl wd e ow bs kk th)).L.a,
 kk = (jnS S (JO.mk 5 bl wd e ow bs kk th)).L.f,
 mget S.M (key 8 th kk) = (jnS S (JO.mk 5 bl wd e ow bs kk th)).L.w,
 memIs S.M 8 th kk 0 = (jnS S (JO.mk 5 bl wd e ow bs kk th)).L.i,
 false = (jnS S (JO.mk 5 bl wd e ow bs kk th)).L.d,
 ∀ (k : List Int), memPut S.M 8 th kk 0 k = (jnS S (JO.mk 5 bl wd e ow bs kk th)).M k,
 (IntKind.i64.wrap (kk + 1) == 10) = false,
 (0 : Int) ≤ (8 : Int)]) := by kernel_rfl
theorem jn5b_loc (bl : Int) (wd : Int) (e : Int) (ow : Int) (bs : Int) (kk : Int) (th : Int) (S : MS) (FT : Nat → Nat → AV) : LocOk Tryd.prog 73 [.ptr 1 0 0, .ptr 2 0 0] (jn5bH bl wd e ow bs kk th S FT) (jn5bR bl wd e ow bs kk th S FT) := by
  refine loc_of_call ETl_ok (fun hp => ?_)
  have hFT : FT = tabF tab := hp _ (List.mem_cons_self ..)
  have hu : U64 S := hp _ (List.mem_cons_of_mem _ (List.mem_cons_self ..))
  have hs : ¬ IntKind.i64.wrap (kk + 1) = 10 := hp _ (List.mem_cons_of_mem _ (List.mem_cons_of_mem _ (List.mem_cons_self ..)))
  clear hp
  subst hFT
  have q : jnO S ⟨5, bl, wd, e, ow, bs, kk, th⟩ = ⟨5, bl, wd, e, ow, bs, IntKind.i64.wrap (kk + 1), th⟩ := if_neg hs
  have t1 : (IntKind.i64.wrap (kk + 1) == 10) = false := eqF hs
  refine ⟨2000, _, _, _, jn5b_1 .., (ob_cons ?_ (ob_cons rfl (ob_cons (Nat.le_refl _) (ob_cons (.inl ⟨rfl, rfl⟩) (ob_cons ?_ (ob_cons ?_ (ob_cons ?_ (ob_cons ?_ (ob_cons ?_ (ob_cons ?_ (ob_cons ?_ (ob_cons ?_ (ob_cons ?_ (ob_cons rfl (ob_cons rfl (ob_cons ?_ (ob_cons ?_ (ob_cons ?_ (ob_cons ?_ (ob_cons ?_ (ob_cons ?_ (ob_cons ?_ (ob_cons (by decide) ob_nil)))))))))))))))))))))))⟩
  · (rw [q]; rfl)
  · (rw [q]; done)
  · (rw [q]; done)
  · (rw [q]; done)
  · (rw [q]; done)
  · (rw [q]; done)
  · (rw [q]; done)
  · (rw [q]; done)
  · (rw [q]; done)
  · exact rfl
  · exact rfl
  · exact rfl
  · exact rfl
  · exact rfl
  · exact rfl
  · exact fun _ => rfl
  · with_reducible assumption
theorem jn6_1 (bl : Int) (wd : Int) (e : Int) (ow : Int) (bs : Int) (kk : Int) (th : Int) (S : MS) : callB ETl 2000 73 [AV.ptr 1 0 0, AV.ptr 2 0 0] (jn6H bl wd e ow bs kk th S (tabF tab)) (jn6R bl wd e ow bs kk th S (tabF tab)) [] [] =
 some ([((7 : Int) == (0 : Int)) = decide ((7 : Int) = (0 : Int)),
 true = true,
 (1 : Nat) ≤ (1 : Nat),
 tabF tab = tabF tab ∧ plainSh (List.map kindOfV tab) = true ∨ ∀ (i : Nat), i < 1 → rowOb (List.map kindOfV tab) 0 (tabF tab i) (tabF tab i),
 (7 : Int) = 7,
 bl = (jnO S (JO.mk 6 bl wd e ow bs kk th)).bl,
 mget S.M (key 7 bl 0) = (jnO S (JO.mk 6 bl wd e ow bs kk th)).wd,
 e = (jnO S (JO.mk 6 bl wd e ow bs kk th)).e,
 ow = (jnO S (JO.mk 6 bl wd e ow bs kk th)).ow,
 bs = (jnO S (JO.mk 6 bl wd e ow bs kk th)).bs,
 kk = (jnO S (JO.mk 6 bl wd e ow bs kk th)).kk,
 th = (jnO S (JO.mk 6 bl wd e ow bs kk th)).th,
 IntKind.i64.wrap (S.st + 1) = (jnS S (JO.mk 6 bl wd e ow bs kk th)).st,
 (1 : Int) = 1,
 (7 : Int) = 7,
 bl = (jnS S (JO.mk 6 bl wd e ow bs kk th)).L.a,
 (0 : Int) = 0,
 mget S.M (key 7 bl 0) = (jnS S (JO.mk 6 bl wd e ow bs kk th)).L.w,
 mget S.M (key 7 bl 0) = (jnS S (JO.mk 6 bl wd e ow bs kk th)).L.i,
 false = (jnS S (JO.mk 6 bl wd e ow bs kk th)).L.d,
 ∀ (k : List Int), S.M k = (jnS S (JO.mk 6 bl wd e ow bs kk th)).M k,
 TabIs tab (tabF tab),
 0 ≤ mget S.M (key 7 bl 0),
 mget S.M (key 7 bl 0) < 18446744073709551616]) := by kernel_rfl
theorem jn6_loc (bl : Int) (wd : Int) (e : Int) (ow : Int) (bs : Int) (kk : Int) (th : Int) (S : MS) (FT : Nat → Nat → AV) : LocOk Tryd.prog 73 [.ptr 1 0 0, .ptr 2 0 0] (jn6H bl wd e ow bs kk th S FT) (jn6R bl wd e ow bs kk th S FT) := by
  refine loc_of_call ETl_ok (fun hp => ?_)
  have hFT : FT = tabF tab := hp _ (List.mem_cons_self ..)
  have hu : U64 S := hp _ (List.mem_cons_of_mem _ (List.mem_cons_self ..))
  clear hp
  subst hFT
  refine ⟨2000, _, _, _, jn6_1 .., (ob_cons ?_ (ob_cons rfl (ob_cons (Nat.le_refl _) (ob_cons (.inl ⟨rfl, rfl⟩) (ob_cons rfl (ob_cons ?_ (ob_cons ?_ (ob_cons ?_ (ob_cons ?_ (ob_cons ?_ (ob_cons ?_ (ob_cons ?_ (ob_cons ?_ (ob_cons rfl (ob_cons rfl (ob_cons ?_ (ob_cons rfl (ob_cons ?_ (ob_cons ?_ (ob_cons ?_ (ob_cons ?_ (ob_cons (tabIs_self _) (ob_cons ?_ (ob_cons ?_ ob_nil))))))))))))))))))))))))⟩
  · exact rfl
  · exact rfl
  · exact rfl
  · exact rfl
  · exact rfl
  · exact rfl
  · exact rfl
  · exact rfl
  · exact rfl
  · exact rfl
  · exact rfl
  · exact rfl
  · exact rfl
  · exact fun _ => rfl
  · exact (hu _).1
  · exact (hu _).2
theorem jn7a_1 (bl : Int) (wd : Int) (e : Int) (ow : Int) (bs : Int) (kk : Int) (th : Int) (S : MS) : callB ETl 2000 73 [AV.ptr 1 0 0, AV.ptr 2 0 0] (jn7aH bl wd e ow bs kk th S (tabF tab)) (jn7aR bl wd e ow bs kk th S (tabF tab)) [] [Hint.b true] =
 some ([((0 : Int) == (0 : Int)) = decide ((jnO S (JO.mk (7 : Int) bl wd e ow bs kk th)).ln = (0 : Int)),
 true = true,
 (1 : Nat) ≤ (1 : Nat),
 tabF tab = tabF tab ∧ plainSh (List.map kindOfV tab) = true ∨ ∀ (i : Nat), i < 1 → rowOb (List.map kindOfV tab) 0 (tabF tab i) (tabF tab i),
 0 = (jnO S (JO.mk 7 bl wd e ow bs kk th)).ln,
 bl = (jnO S (JO.mk 7 bl wd e ow bs kk th)).bl,
 wd = (jnO S (JO.mk 7 bl wd e ow bs kk th)).wd,
 7 = (jnO S (JO.mk 7 bl wd e ow bs kk th)).e,
 ow = (jnO S (JO.mk 7 bl wd e ow bs kk th)).ow,
 bs = (jnO S (JO.mk 7 bl wd e ow bs kk th)).bs,
 kk = (jnO S (JO.mk 7 bl wd e ow bs kk th)).kk,
 th = (jnO S (JO.mk 7 bl wd e ow bs kk th)).th,
 IntKind.i64.wrap (S.st + 1) = (jnS S (JO.mk 7 bl wd e ow bs kk th)).st,
 (3 : Int) = 3,
 (7 : Int) = 7,
 bl = (jnS S (JO.mk 7 bl wd e ow bs kk th)).L.a,
 (0 : Int) = 0,
 mget S.M (key 7 bl 0) = (jnS S (JO.mk 7 bl wd e ow bs kk th)).L.w,
 casI S.M 7 bl 0 wd (bk (IntKind.u32.wrap ((if 1 > bkN wd then 1 else bkN wd) - 1)) (bkC wd)) = (jnS S (JO.mk 7 bl wd e ow bs kk th)).L.i,
 casD S.M 7 bl 0 wd = (jnS S (JO.mk 7 bl wd e ow bs kk th)).L.d,
 ∀ (k : List Int), casM S.M 7 bl 0 wd (bk (IntKind.u32.wrap ((if 1 > bkN wd then 1 else bkN wd) - 1)) (bkC wd)) k = (jnS S (JO.mk 7 bl wd e ow bs kk th)).M k,
 casD S.M 7 bl 0 wd = true,
 (0 : Int) ≤ (7 : Int),
 TabIs tab (tabF tab),
 0 ≤ IntKind.u32.wrap ((if 1 > bkN wd then 1 else bkN wd) - 1),
 IntKind.u32.wrap ((if 1 > bkN wd then 1 else bkN wd) - 1) < 4294967296,
 TabIs tab (tabF tab),
 0 ≤ wd,
 wd < 18446744073709551616]) := by kernel_rfl
theorem jn7a_loc (bl : Int) (wd : Int) (e : Int) (ow : Int) (bs : Int) (kk : Int) (th : Int) (S : MS) (FT : Nat → Nat → AV) : LocOk Tryd.prog 73 [.ptr 1 0 0, .ptr 2 0 0] (jn7aH bl wd e ow bs kk th S FT) (jn7aR bl wd e ow bs kk th S FT) := by
  refine loc_of_call ETl_ok (fun hp => ?_)
  have hFT : FT = tabF tab := hp _ (List.mem_cons_self ..)
  have hu : U64 S := hp _ (List.mem_cons_of_mem _ (List.mem_cons_self ..))
  have hh : R64 wd := hp _ (List.mem_cons_of_mem _ (List.mem_cons_of_mem _ (List.mem_cons_self ..)))
  have hs : casD S.M 7 bl 0 wd = true := hp _ (List.mem_cons_of_mem _ (List.mem_cons_of_mem _ (List.mem_cons_of_mem _ (List.mem_cons_self ..))))
  clear hp
  subst hFT
  have q : jnO S ⟨7, bl, wd, e, ow, bs, kk, th⟩ = ⟨0, bl, wd, 7, ow, bs, kk, th⟩ := if_pos hs
  refine ⟨2000, _, _, _, jn7a_1 .., (ob_cons ?_ (ob_cons rfl (ob_cons (Nat.le_refl _) (ob_cons (.inl ⟨rfl, rfl⟩) (ob_cons ?_ (ob_cons ?_ (ob_cons ?_ (ob_cons ?_ (ob_cons ?_ (ob_cons ?_ (ob_cons ?_ (ob_cons ?_ (ob_cons ?_ (ob_cons rfl (ob_cons rfl (ob_cons ?_ (ob_cons rfl (ob_cons ?_ (ob_cons ?_ (ob_cons ?_ (ob_cons ?_ (ob_cons ?_ (ob_cons (by decide) (ob_cons (tabIs_self _) (ob_cons ?_ (ob_cons ?_ (ob_cons (tabIs_self _) (ob_cons ?_ (ob_cons ?_ ob_nil)))))))))))))))))))))))))))))⟩
  · (rw [q]; rfl)
  · (rw [q]; done)
  · (rw [q]; done)
  · (rw [q]; done)
  · (rw [q]; done)
  · (rw [q]; done)
  · (rw [q]; done)
  · (rw [q]; done)
  · (rw [q]; done)
  · exact rfl
  · exact rfl
  · exact rfl
  · (rw [tl_p]; rfl)
  · exact rfl
  · (rw [tl_p]; exact fun _ => rfl)
  · with_reducible assumption
  · (rw [tl_p]; exact (tLess_r _).1)
  · (rw [tl_p]; exact (tLess_r _).2)
  · exact hh.1
  · exact hh.2
theorem jn7b_1 (bl : Int) (wd : Int) (e : Int) (ow : Int) (bs : Int) (kk : Int) (th : Int) (S : MS) : callB ETl 2000 73 [AV.ptr 1 0 0, AV.ptr 2 0 0] (jn7bH bl wd e ow bs kk th S (tabF tab)) (jn7bR bl wd e ow bs kk th S (tabF tab)) [] [Hint.b false] =
 some ([((6 : Int) == (0 : Int)) = decide ((jnO S (JO.mk (7 : Int) bl wd e ow bs kk th)).ln = (0 : Int)),
 true = true,
 (1 : Nat) ≤ (1 : Nat),
 tabF tab = tabF tab ∧ plainSh (List.map kindOfV tab) = true ∨ ∀ (i : Nat), i < 1 → rowOb (List.map kindOfV tab) 0 (tabF tab i) (tabF tab i),
 6 = (jnO S (JO.mk 7 bl wd e ow bs kk th)).ln,
 bl = (jnO S (JO.mk 7 bl wd e ow bs kk th)).bl,
 wd = (jnO S (JO.mk 7 bl wd e ow bs kk th)).wd,
 e = (jnO S (JO.mk 7 bl wd e ow bs kk th)).e,
 ow = (jnO S (JO.mk 7 bl wd e ow bs kk th)).ow,
 bs = (jnO S (JO.mk 7 bl wd e ow bs kk th)).bs,
 kk = (jnO S (JO.mk 7 bl wd e ow bs kk th)).kk,
 th = (jnO S (JO.mk 7 bl wd e ow bs kk th)).th,
 IntKind.i64.wrap (S.st + 1) = (jnS S (JO.mk 7 bl wd e ow bs kk th)).st,
 (3 : Int) = 3,
 (7 : Int) = 7,
 bl = (jnS S (JO.mk 7 bl wd e ow bs kk th)).L.a,
 (0 : Int) = 0,
 mget S.M (key 7 bl 0) = (jnS S (JO.mk 7 bl wd e ow bs kk th)).L.w,
 casI S.M 7 bl 0 wd (bk (IntKind.u32.wrap ((if 1 > bkN wd then 1 else bkN wd) - 1)) (bkC wd)) = (jnS S (JO.mk 7 bl wd e ow bs kk th)).L.i,
 casD S.M 7 bl 0 wd = (jnS S (JO.mk 7 bl wd e ow bs kk th)).L.d,
 ∀ (k : List Int), casM S.M 7 bl 0 wd (bk (IntKind.u32.wrap ((if 1 > bkN wd then 1 else bkN wd) - 1)) (bkC wd)) k = (jnS S (JO.mk 7 bl wd e ow bs kk th)).M k,
 casD S.M 7 bl 0 wd = false,
 (0 : Int) ≤ (7 : Int),
 TabIs tab (tabF tab),
 0 ≤ IntKind.u32.wrap ((if 1 > bkN wd then 1 else bkN wd) - 1),
 IntKind.u32.wrap ((if 1 > bkN wd then 1 else bkN wd) - 1) < 4294967296,
 TabIs tab (tabF tab),
 0 ≤ wd,
 wd < 18446744073709551616]) := by kernel_rfl
theorem jn7b_loc (bl : Int) (wd : Int) (e : Int) (ow : Int) (bs : Int) (kk : Int) (th : Int) (S : MS) (FT : Nat → Nat → AV) : LocOk Tryd.prog 73 [.ptr 1 0 0, .ptr 2 0 0] (jn7bH bl wd e ow bs kk th S FT) (jn7bR bl wd e ow bs kk th S FT) := by
  refine loc_of_call ETl_ok (fun hp => ?_)
  have hFT : FT = tabF tab := hp _ (List.mem_cons_self ..)
  have hu : U64 S := hp _ (List.mem_cons_of_mem _ (List.mem_cons_self ..))
  have hh : R64 wd := hp _ (List.mem_cons_of_mem _ (List.mem_cons_of_mem _ (List.mem_cons_self ..)))
  have hs : ¬ casD S.M 7 bl 0 wd = true := hp _ (List.mem_cons_of_mem _ (List.mem_cons_of_mem _ (List.mem_cons_of_mem _ (List.mem_cons_self ..))))
  clear hp
  subst hFT
  have q : jnO S ⟨7, bl, wd, e, ow, bs, kk, th⟩ = ⟨6, bl, wd, e, ow, bs, kk, th⟩ := if_neg hs
  have t1 : casD S.M 7 bl 0 wd = false := by simpa using hs
  refine ⟨2000, _, _, _, jn7b_1 .., (ob_cons ?_ (ob_cons rfl (ob_cons (Nat.le_refl _) (ob_cons (.inl ⟨rfl, rfl⟩) (ob_cons ?_ (ob_cons ?_ (ob_cons ?_ (ob_cons ?_ (ob_cons ?_ (ob_cons ?_ (ob_cons ?_ (ob_cons ?_ (ob_cons ?_ (ob_cons rfl (ob_cons rfl (ob_cons ?_ (ob_cons rfl (ob_cons ?_ (ob_cons ?_ (ob_cons ?_ (ob_cons ?_ (ob_cons ?_ (ob_cons (by decide) (ob_cons (tabIs_self _) (ob_cons ?_ (ob_cons ?_ (ob_cons (tabIs_self _) (ob_cons ?_ (ob_cons ?_ ob_nil)))))))))))))))))))))))))))))⟩
  · (rw [q]; rfl)
  · (rw [q]; done)
  · (rw [q]; done)
  · (rw [q]; done)
  · (rw [q]; done)
  · (rw [q]; done)
  · (rw [q]; done)
  · (rw [q]; done)
  · (rw [q]; done)
  · exact rfl
  · exact rfl
  · exact rfl
  · (rw [tl_p]; rfl)
  · exact rfl
  · (rw [tl_p]; exact fun _ => rfl)
  · with_reducible assumption
  · (rw [tl_p]; exact (tLess_r _).1)
  · (rw [tl_p]; exact (tLess_r _).2)
  · exact hh.1
  · exact hh.2
end Go.Proofs.YtmndhjodbnojdaaDoor
