/-
  Steps of a Give: line by line.
-/
import Derived.Test.YtmndhjodbnojdaaDoorJOgDef
set_option linter.unusedSimpArgs false
set_option linter.unusedVariables false
namespace Go.Proofs.YtmndhjodbnojdaaDoor
open Go.Ev
theorem gv0_1 (n : Nat) (l : Nat) (f : Nat → Nat → AV) (h : Int) (a : Int) (S : MS) : callB EOr 2000 35 [AV.ptr 1 0 0, AV.ptr 3 0 0] (gv0H n l f h a S (tabF tab)) (gv0R n l f h a S (tabF tab)) [] [] =
 some ([((0 : Int) == (0 : Int)) = decide ((0 : Int) = (0 : Int)),
 true = true,
 (1 : Nat) ≤ (1 : Nat),
 tabF tab = tabF tab ∧ plainSh (List.map kindOfV tab) = true ∨ ∀ (i : Nat), i < 1 → rowOb (List.map kindOfV tab) 0 (tabF tab i) (tabF tab i),
 (0 : Int) = 0,
 h = (gvO n (kOf f) S (GO.mk 0 h a)).h,
 (0 : Nat) = 0,
 n = n,
 (none : Option Nat) = none,
 a = (gvO n (kOf f) S (GO.mk 0 h a)).at_,
 false = false,
 l ≤ l,
 f = f ∧ plainSh [CK.int IntKind.i64] = true ∨ ∀ (i : Nat), i < l → rowOb [CK.int IntKind.i64] 0 (f i) (f i),
 S.st = (gvS n (kOf f) S (GO.mk 0 h a)).st,
 S.L.c = (gvS n (kOf f) S (GO.mk 0 h a)).L.c,
 S.L.k = (gvS n (kOf f) S (GO.mk 0 h a)).L.k,
 S.L.a = (gvS n (kOf f) S (GO.mk 0 h a)).L.a,
 S.L.f = (gvS n (kOf f) S (GO.mk 0 h a)).L.f,
 S.L.w = (gvS n (kOf f) S (GO.mk 0 h a)).L.w,
 S.L.i = (gvS n (kOf f) S (GO.mk 0 h a)).L.i,
 S.L.d = (gvS n (kOf f) S (GO.mk 0 h a)).L.d,
 ∀ (k : List Int), S.M k = (gvS n (kOf f) S (GO.mk 0 h a)).M k]) := by kernel_rfl
theorem gv0_loc (n : Nat) (l : Nat) (f : Nat → Nat → AV) (h : Int) (a : Int) (S : MS) (FT : Nat → Nat → AV) : LocOk Tryd.prog 35 [.ptr 1 0 0, .ptr 3 0 0] (gv0H n l f h a S FT) (gv0R n l f h a S FT) := by
  refine loc_of_call EOr_ok (fun hp => ?_)
  have hFT : FT = tabF tab := hp _ (List.mem_cons_self ..)
  have hu : U64 S := hp _ (List.mem_cons_of_mem _ (List.mem_cons_self ..))
  clear hp
  subst hFT
  refine ⟨2000, _, _, _, gv0_1 .., (ob_cons ?_ (ob_cons rfl (ob_cons (Nat.le_refl _) (ob_cons (.inl ⟨rfl, rfl⟩) (ob_cons rfl (ob_cons ?_ (ob_cons rfl (ob_cons rfl (ob_cons rfl (ob_cons ?_ (ob_cons rfl (ob_cons (Nat.le_refl _) (ob_cons (.inl ⟨rfl, rfl⟩) (ob_cons ?_ (ob_cons ?_ (ob_cons ?_ (ob_cons ?_ (ob_cons ?_ (ob_cons ?_ (ob_cons ?_ (ob_cons ?_ (ob_cons ?_ ob_nil))))))))))))))))))))))⟩
  · exact rfl
  · exact rfl
  · exact rfl
  · exact rfl
  · exact rfl
  · exact rfl
  · exact rfl
  · exact rfl
  · exact rfl
  · exact rfl
  · exact rfl
  · exact fun _ => rfl
theorem gv1a_1 (n : Nat) (l : Nat) (f : Nat → Nat → AV) (h : Int) (a : Int) (S : MS) : callB EOr 2000 35 [AV.ptr 1 0 0, AV.ptr 3 0 0] (gv1aH n l f h a S (tabF tab)) (gv1aR n l f h a S (tabF tab)) [] [Hint.node [], Hint.node [], Hint.b true] =
 some ([((2 : Int) == (0 : Int)) = decide ((gvO n (kOf f) S (GO.mk (1 : Int) h a)).ln = (0 : Int)),
 true = true,
 (1 : Nat) ≤ (1 : Nat),
 tabF tab = tabF tab ∧ plainSh (List.map kindOfV tab) = true ∨ ∀ (i : Nat), i < 1 → rowOb (List.map kindOfV tab) 0 (tabF tab i) (tabF tab i),
 2 = (gvO n (kOf f) S (GO.mk 1 h a)).ln,
 h = (gvO n (kOf f) S (GO.mk 1 h a)).h,
 (0 : Nat) = 0,
 n = n,
 (none : Option Nat) = none,
 IntKind.i64.wrap (a + 1) = (gvO n (kOf f) S (GO.mk 1 h a)).at_,
 false = false,
 l ≤ l,
 f = f ∧ plainSh [CK.int IntKind.i64] = true ∨ ∀ (i : Nat), i < l → rowOb [CK.int IntKind.i64] 0 (f i) (f i),
 IntKind.i64.wrap (S.st + 1) = (gvS n (kOf f) S (GO.mk 1 h a)).st,
 (2 : Int) = 2,
 (9 : Int) = 9,
 avInt (f (0 + a.toNat) 0) = (gvS n (kOf f) S (GO.mk 1 h a)).L.a,
 (2 : Int) = 2,
 mget S.M (key 9 (avInt (f (0 + a.toNat) 0)) 2) = (gvS n (kOf f) S (GO.mk 1 h a)).L.w,
 memIs S.M 9 (avInt (f (0 + a.toNat) 0)) 2 (hHead (avInt (f (0 + (IntKind.i64.wrap (a + 1)).toNat) 0)) 0) = (gvS n (kOf f) S (GO.mk 1 h a)).L.i,
 false = (gvS n (kOf f) S (GO.mk 1 h a)).L.d,
 ∀ (k : List Int), memPut S.M 9 (avInt (f (0 + a.toNat) 0)) 2 (hHead (avInt (f (0 + (IntKind.i64.wrap (a + 1)).toNat) 0)) 0) k = (gvS n (kOf f) S (GO.mk 1 h a)).M k,
 (IntKind.i64.wrap (a + 1) == IntKind.i64.wrap (Int.ofNat n - 1)) = true,
 (0 : Int) ≤ (9 : Int),
 TabIs tab (tabF tab),
 (0 : Int) ≤ (0 : Int),
 (0 : Int) < (18446744073709551616 : Int),
 (0 + (IntKind.i64.wrap (a + 1)).toNat).blt l = true,
 ((IntKind.i64.wrap (a + 1)).toNat.blt n && decide (0 ≤ IntKind.i64.wrap (a + 1))) = true,
 (0 + a.toNat).blt l = true,
 (a.toNat.blt n && decide (0 ≤ a)) = true]) := by kernel_rfl
theorem gv1a_2 (n : Nat) (l : Nat) (f : Nat → Nat → AV) (h : Int) (a : Int) (S : MS) : callB EOr 2000 35 [AV.ptr 1 0 0, AV.ptr 3 0 0] (gv1aH n l f h a S (tabF tab)) (gv1aR n l f h a S (tabF tab)) [] [Hint.node [], Hint.node [], Hint.b false] =
 some ([((1 : Int) == (0 : Int)) = decide ((gvO n (kOf f) S (GO.mk (1 : Int) h a)).ln = (0 : Int)),
 true = true,
 (1 : Nat) ≤ (1 : Nat),
 tabF tab = tabF tab ∧ plainSh (List.map kindOfV tab) = true ∨ ∀ (i : Nat), i < 1 → rowOb (List.map kindOfV tab) 0 (tabF tab i) (tabF tab i),
 1 = (gvO n (kOf f) S (GO.mk 1 h a)).ln,
 h = (gvO n (kOf f) S (GO.mk 1 h a)).h,
 (0 : Nat) = 0,
 n = n,
 (none : Option Nat) = none,
 IntKind.i64.wrap (a + 1) = (gvO n (kOf f) S (GO.mk 1 h a)).at_,
 false = false,
 l ≤ l,
 f = f ∧ plainSh [CK.int IntKind.i64] = true ∨ ∀ (i : Nat), i < l → rowOb [CK.int IntKind.i64] 0 (f i) (f i),
 IntKind.i64.wrap (S.st + 1) = (gvS n (kOf f) S (GO.mk 1 h a)).st,
 (2 : Int) = 2,
 (9 : Int) = 9,
 avInt (f (0 + a.toNat) 0) = (gvS n (kOf f) S (GO.mk 1 h a)).L.a,
 (2 : Int) = 2,
 mget S.M (key 9 (avInt (f (0 + a.toNat) 0)) 2) = (gvS n (kOf f) S (GO.mk 1 h a)).L.w,
 memIs S.M 9 (avInt (f (0 + a.toNat) 0)) 2 (hHead (avInt (f (0 + (IntKind.i64.wrap (a + 1)).toNat) 0)) 0) = (gvS n (kOf f) S (GO.mk 1 h a)).L.i,
 false = (gvS n (kOf f) S (GO.mk 1 h a)).L.d,
 ∀ (k : List Int), memPut S.M 9 (avInt (f (0 + a.toNat) 0)) 2 (hHead (avInt (f (0 + (IntKind.i64.wrap (a + 1)).toNat) 0)) 0) k = (gvS n (kOf f) S (GO.mk 1 h a)).M k,
 (IntKind.i64.wrap (a + 1) == IntKind.i64.wrap (Int.ofNat n - 1)) = false,
 (0 : Int) ≤ (9 : Int),
 TabIs tab (tabF tab),
 (0 : Int) ≤ (0 : Int),
 (0 : Int) < (18446744073709551616 : Int),
 (0 + (IntKind.i64.wrap (a + 1)).toNat).blt l = true,
 ((IntKind.i64.wrap (a + 1)).toNat.blt n && decide (0 ≤ IntKind.i64.wrap (a + 1))) = true,
 (0 + a.toNat).blt l = true,
 (a.toNat.blt n && decide (0 ≤ a)) = true]) := by kernel_rfl
theorem gv1a_loc (n : Nat) (l : Nat) (f : Nat → Nat → AV) (h : Int) (a : Int) (S : MS) (FT : Nat → Nat → AV) : LocOk Tryd.prog 35 [.ptr 1 0 0, .ptr 3 0 0] (gv1aH n l f h a S FT) (gv1aR n l f h a S FT) := by
  refine loc_of_call EOr_ok (fun hp => ?_)
  have hFT : FT = tabF tab := hp _ (List.mem_cons_self ..)
  have hu : U64 S := hp _ (List.mem_cons_of_mem _ (List.mem_cons_self ..))
  have hnl : n ≤ l := hp _ (List.mem_cons_of_mem _ (List.mem_cons_of_mem _ (List.mem_cons_self ..)))
  have ha0 : 0 ≤ a := hp _ (List.mem_cons_of_mem _ (List.mem_cons_of_mem _ (List.mem_cons_of_mem _ (List.mem_cons_self ..))))
  have ha1 : a + 1 < Int.ofNat n := hp _ (List.mem_cons_of_mem _ (List.mem_cons_of_mem _ (List.mem_cons_of_mem _ (List.mem_cons_of_mem _ (List.mem_cons_self ..)))))
  have hn : n ≤ 1000000 := hp _ (List.mem_cons_of_mem _ (List.mem_cons_of_mem _ (List.mem_cons_of_mem _ (List.mem_cons_of_mem _ (List.mem_cons_of_mem _ (List.mem_cons_self ..))))))
  have hs : IntKind.i64.wrap (a + 1) = IntKind.i64.wrap (Int.ofNat n - 1) := hp _ (List.mem_cons_of_mem _ (List.mem_cons_of_mem _ (List.mem_cons_of_mem _ (List.mem_cons_of_mem _ (List.mem_cons_of_mem _ (List.mem_cons_of_mem _ (List.mem_cons_self ..)))))))
  clear hp
  subst hFT
  have ew : IntKind.i64.wrap (a + 1) = a + 1 := i64w (by omega) (by simp at ha1; omega)
  have en : IntKind.i64.wrap (Int.ofNat n - 1) = Int.ofNat n - 1 := i64w (by simp; omega) (by simp; omega)
  have hat1 : (a.toNat.blt n && decide (0 ≤ a)) = true := by simp at ha1 ⊢; omega
  have hat2 : ((IntKind.i64.wrap (a + 1)).toNat.blt n && decide (0 ≤ IntKind.i64.wrap (a + 1))) = true := by rw [ew]; simp at ha1 ⊢; omega
  have hat3 : (0 + a.toNat).blt l = true := by simp at ha1 ⊢; omega
  have hat4 : (0 + (IntKind.i64.wrap (a + 1)).toNat).blt l = true := by rw [ew]; simp at ha1 ⊢; omega
  have q := gvO_1a (K := kOf f) (S := S) (h := h) hs
  have hat5 : True := trivial
  cases h1 : (IntKind.i64.wrap (a + 1) == IntKind.i64.wrap (Int.ofNat n - 1)) with
  | true =>
    refine ⟨2000, _, _, _, gv1a_1 .., (ob_cons ?_ (ob_cons rfl (ob_cons (Nat.le_refl _) (ob_cons (.inl ⟨rfl, rfl⟩) (ob_cons ?_ (ob_cons ?_ (ob_cons rfl (ob_cons rfl (ob_cons rfl (ob_cons ?_ (ob_cons rfl (ob_cons (Nat.le_refl _) (ob_cons (.inl ⟨rfl, rfl⟩) (ob_cons ?_ (ob_cons rfl (ob_cons rfl (ob_cons ?_ (ob_cons rfl (ob_cons ?_ (ob_cons ?_ (ob_cons ?_ (ob_cons ?_ (ob_cons h1 (ob_cons (by decide) (ob_cons (tabIs_self _) (ob_cons (Int.le_refl _) (ob_cons (by decide) (ob_cons ?_ (ob_cons ?_ (ob_cons ?_ (ob_cons ?_ ob_nil)))))))))))))))))))))))))))))))⟩
    · (rw [q]; rfl)
    · (rw [q]; done)
    · (rw [q]; done)
    · (rw [q]; done)
    · exact rfl
    · exact rfl
    · exact rfl
    · exact rfl
    · exact rfl
    · exact fun _ => rfl
    · with_reducible assumption
    · with_reducible assumption
    · with_reducible assumption
    · with_reducible assumption
  | false =>
    refine ⟨2000, _, _, _, gv1a_2 .., (ob_cons ?_ (ob_cons rfl (ob_cons (Nat.le_refl _) (ob_cons (.inl ⟨rfl, rfl⟩) (ob_cons ?_ (ob_cons ?_ (ob_cons rfl (ob_cons rfl (ob_cons rfl (ob_cons ?_ (ob_cons rfl (ob_cons (Nat.le_refl _) (ob_cons (.inl ⟨rfl, rfl⟩) (ob_cons ?_ (ob_cons rfl (ob_cons rfl (ob_cons ?_ (ob_cons rfl (ob_cons ?_ (ob_cons ?_ (ob_cons ?_ (ob_cons ?_ (ob_cons h1 (ob_cons (by decide) (ob_cons (tabIs_self _) (ob_cons (Int.le_refl _) (ob_cons (by decide) (ob_cons ?_ (ob_cons ?_ (ob_cons ?_ (ob_cons ?_ ob_nil)))))))))))))))))))))))))))))))⟩
    · exact absurd hs (by simpa using h1)
    · exact absurd hs (by simpa using h1)
    · exact absurd hs (by simpa using h1)
    · exact absurd hs (by simpa using h1)
    · exact absurd hs (by simpa using h1)
    · exact absurd hs (by simpa using h1)
    · exact absurd hs (by simpa using h1)
    · exact absurd hs (by simpa using h1)
    · exact absurd hs (by simpa using h1)
    · exact absurd hs (by simpa using h1)
    · with_reducible assumption
    · with_reducible assumption
    · with_reducible assumption
    · with_reducible assumption
theorem gv1b_1 (n : Nat) (l : Nat) (f : Nat → Nat → AV) (h : Int) (a : Int) (S : MS) : callB EOr 2000 35 [AV.ptr 1 0 0, AV.ptr 3 0 0] (gv1bH n l f h a S (tabF tab)) (gv1bR n l f h a S (tabF tab)) [] [Hint.node [], Hint.node [], Hint.b true] =
 some ([((2 : Int) == (0 : Int)) = decide ((gvO n (kOf f) S (GO.mk (1 : Int) h a)).ln = (0 : Int)),
 true = true,
 (1 : Nat) ≤ (1 : Nat),
 tabF tab = tabF tab ∧ plainSh (List.map kindOfV tab) = true ∨ ∀ (i : Nat), i < 1 → rowOb (List.map kindOfV tab) 0 (tabF tab i) (tabF tab i),
 2 = (gvO n (kOf f) S (GO.mk 1 h a)).ln,
 h = (gvO n (kOf f) S (GO.mk 1 h a)).h,
 (0 : Nat) = 0,
 n = n,
 (none : Option Nat) = none,
 IntKind.i64.wrap (a + 1) = (gvO n (kOf f) S (GO.mk 1 h a)).at_,
 false = false,
 l ≤ l,
 f = f ∧ plainSh [CK.int IntKind.i64] = true ∨ ∀ (i : Nat), i < l → rowOb [CK.int IntKind.i64] 0 (f i) (f i),
 IntKind.i64.wrap (S.st + 1) = (gvS n (kOf f) S (GO.mk 1 h a)).st,
 (2 : Int) = 2,
 (9 : Int) = 9,
 avInt (f (0 + a.toNat) 0) = (gvS n (kOf f) S (GO.mk 1 h a)).L.a,
 (2 : Int) = 2,
 mget S.M (key 9 (avInt (f (0 + a.toNat) 0)) 2) = (gvS n (kOf f) S (GO.mk 1 h a)).L.w,
 memIs S.M 9 (avInt (f (0 + a.toNat) 0)) 2 (hHead (avInt (f (0 + (IntKind.i64.wrap (a + 1)).toNat) 0)) 0) = (gvS n (kOf f) S (GO.mk 1 h a)).L.i,
 false = (gvS n (kOf f) S (GO.mk 1 h a)).L.d,
 ∀ (k : List Int), memPut S.M 9 (avInt (f (0 + a.toNat) 0)) 2 (hHead (avInt (f (0 + (IntKind.i64.wrap (a + 1)).toNat) 0)) 0) k = (gvS n (kOf f) S (GO.mk 1 h a)).M k,
 (IntKind.i64.wrap (a + 1) == IntKind.i64.wrap (Int.ofNat n - 1)) = true,
 (0 : Int) ≤ (9 : Int),
 TabIs tab (tabF tab),
 (0 : Int) ≤ (0 : Int),
 (0 : Int) < (18446744073709551616 : Int),
 (0 + (IntKind.i64.wrap (a + 1)).toNat).blt l = true,
 ((IntKind.i64.wrap (a + 1)).toNat.blt n && decide (0 ≤ IntKind.i64.wrap (a + 1))) = true,
 (0 + a.toNat).blt l = true,
 (a.toNat.blt n && decide (0 ≤ a)) = true]) := by kernel_rfl
theorem gv1b_2 (n : Nat) (l : Nat) (f : Nat → Nat → AV) (h : Int) (a : Int) (S : MS) : callB EOr 2000 35 [AV.ptr 1 0 0, AV.ptr 3 0 0] (gv1bH n l f h a S (tabF tab)) (gv1bR n l f h a S (tabF tab)) [] [Hint.node [], Hint.node [], Hint.b false] =
 some ([((1 : Int) == (0 : Int)) = decide ((gvO n (kOf f) S (GO.mk (1 : Int) h a)).ln = (0 : Int)),
 true = true,
 (1 : Nat) ≤ (1 : Nat),
 tabF tab = tabF tab ∧ plainSh (List.map kindOfV tab) = true ∨ ∀ (i : Nat), i < 1 → rowOb (List.map kindOfV tab) 0 (tabF tab i) (tabF tab i),
 1 = (gvO n (kOf f) S (GO.mk 1 h a)).ln,
 h = (gvO n (kOf f) S (GO.mk 1 h a)).h,
 (0 : Nat) = 0,
 n = n,
 (none : Option Nat) = none,
 IntKind.i64.wrap (a + 1) = (gvO n (kOf f) S (GO.mk 1 h a)).at_,
 false = false,
 l ≤ l,
 f = f ∧ plainSh [CK.int IntKind.i64] = true ∨ ∀ (i : Nat), i < l → rowOb [CK.int IntKind.i64] 0 (f i) (f i),
 IntKind.i64.wrap (S.st + 1) = (gvS n (kOf f) S (GO.mk 1 h a)).st,
 (2 : Int) = 2,
 (9 : Int) = 9,
 avInt (f (0 + a.toNat) 0) = (gvS n (kOf f) S (GO.mk 1 h a)).L.a,
 (2 : Int) = 2,
 mget S.M (key 9 (avInt (f (0 + a.toNat) 0)) 2) = (gvS n (kOf f) S (GO.mk 1 h a)).L.w,
 memIs S.M 9 (avInt (f (0 + a.toNat) 0)) 2 (hHead (avInt (f (0 + (IntKind.i64.wrap (a + 1)).toNat) 0)) 0) = (gvS n (kOf f) S (GO.mk 1 h a)).L.i,
 false = (gvS n (kOf f) S (GO.mk 1 h a)).L.d,
 ∀ (k : List Int), memPut S.M 9 (avInt (f (0 + a.toNat) 0)) 2 (hHead (avInt (f (0 + (IntKind.i64.wrap (a + 1)).toNat) 0)) 0) k = (gvS n (kOf f) S (GO.mk 1 h a)).M k,
 (IntKind.i64.wrap (a + 1) == IntKind.i64.wrap (Int.ofNat n - 1)) = false,
 (0 : Int) ≤ (9 : Int),
 TabIs tab (tabF tab),
 (0 : Int) ≤ (0 : Int),
 (0 : Int) < (18446744073709551616 : Int),
 (0 + (IntKind.i64.wrap (a + 1)).toNat).blt l = true,
 ((IntKind.i64.wrap (a + 1)).toNat.blt n && decide (0 ≤ IntKind.i64.wrap (a + 1))) = true,
 (0 + a.toNat).blt l = true,
 (a.toNat.blt n && decide (0 ≤ a)) = true]) := by kernel_rfl
theorem gv1b_loc (n : Nat) (l : Nat) (f : Nat → Nat → AV) (h : Int) (a : Int) (S : MS) (FT : Nat → Nat → AV) : LocOk Tryd.prog 35 [.ptr 1 0 0, .ptr 3 0 0] (gv1bH n l f h a S FT) (gv1bR n l f h a S FT) := by
  refine loc_of_call EOr_ok (fun hp => ?_)
  have hFT : FT = tabF tab := hp _ (List.mem_cons_self ..)
  have hu : U64 S := hp _ (List.mem_cons_of_mem _ (List.mem_cons_self ..))
  have hnl : n ≤ l := hp _ (List.mem_cons_of_mem _ (List.mem_cons_of_mem _ (List.mem_cons_self ..)))
  have ha0 : 0 ≤ a := hp _ (List.mem_cons_of_mem _ (List.mem_cons_of_mem _ (List.mem_cons_of_mem _ (List.mem_cons_self ..))))
  have ha1 : a + 1 < Int.ofNat n := hp _ (List.mem_cons_of_mem _ (List.mem_cons_of_mem _ (List.mem_cons_of_mem _ (List.mem_cons_of_mem _ (List.mem_cons_self ..)))))
  have hn : n ≤ 1000000 := hp _ (List.mem_cons_of_mem _ (List.mem_cons_of_mem _ (List.mem_cons_of_mem _ (List.mem_cons_of_mem _ (List.mem_cons_of_mem _ (List.mem_cons_self ..))))))
  have hs : ¬ IntKind.i64.wrap (a + 1) = IntKind.i64.wrap (Int.ofNat n - 1) := hp _ (List.mem_cons_of_mem _ (List.mem_cons_of_mem _ (List.mem_cons_of_mem _ (List.mem_cons_of_mem _ (List.mem_cons_of_mem _ (List.mem_cons_of_mem _ (List.mem_cons_self ..)))))))
  clear hp
  subst hFT
  have ew : IntKind.i64.wrap (a + 1) = a + 1 := i64w (by omega) (by simp at ha1; omega)
  have en : IntKind.i64.wrap (Int.ofNat n - 1) = Int.ofNat n - 1 := i64w (by simp; omega) (by simp; omega)
  have hat1 : (a.toNat.blt n && decide (0 ≤ a)) = true := by simp at ha1 ⊢; omega
  have hat2 : ((IntKind.i64.wrap (a + 1)).toNat.blt n && decide (0 ≤ IntKind.i64.wrap (a + 1))) = true := by rw [ew]; simp at ha1 ⊢; omega
  have hat3 : (0 + a.toNat).blt l = true := by simp at ha1 ⊢; omega
  have hat4 : (0 + (IntKind.i64.wrap (a + 1)).toNat).blt l = true := by rw [ew]; simp at ha1 ⊢; omega
  have q := gvO_1b (K := kOf f) (S := S) (h := h) hs
  have hat5 : True := trivial
  cases h1 : (IntKind.i64.wrap (a + 1) == IntKind.i64.wrap (Int.ofNat n - 1)) with
  | true =>
    refine ⟨2000, _, _, _, gv1b_1 .., (ob_cons ?_ (ob_cons rfl (ob_cons (Nat.le_refl _) (ob_cons (.inl ⟨rfl, rfl⟩) (ob_cons ?_ (ob_cons ?_ (ob_cons rfl (ob_cons rfl (ob_cons rfl (ob_cons ?_ (ob_cons rfl (ob_cons (Nat.le_refl _) (ob_cons (.inl ⟨rfl, rfl⟩) (ob_cons ?_ (ob_cons rfl (ob_cons rfl (ob_cons ?_ (ob_cons rfl (ob_cons ?_ (ob_cons ?_ (ob_cons ?_ (ob_cons ?_ (ob_cons h1 (ob_cons (by decide) (ob_cons (tabIs_self _) (ob_cons (Int.le_refl _) (ob_cons (by decide) (ob_cons ?_ (ob_cons ?_ (ob_cons ?_ (ob_cons ?_ ob_nil)))))))))))))))))))))))))))))))⟩
    · exact absurd hs (by simpa using h1)
    · exact absurd hs (by simpa using h1)
    · exact absurd hs (by simpa using h1)
    · exact absurd hs (by simpa using h1)
    · exact absurd hs (by simpa using h1)
    · exact absurd hs (by simpa using h1)
    · exact absurd hs (by simpa using h1)
    · exact absurd hs (by simpa using h1)
    · exact absurd hs (by simpa using h1)
    · exact absurd hs (by simpa using h1)
    · with_reducible assumption
    · with_reducible assumption
    · with_reducible assumption
    · with_reducible assumption
  | false =>
    refine ⟨2000, _, _, _, gv1b_2 .., (ob_cons ?_ (ob_cons rfl (ob_cons (Nat.le_refl _) (ob_cons (.inl ⟨rfl, rfl⟩) (ob_cons ?_ (ob_cons ?_ (ob_cons rfl (ob_cons rfl (ob_cons rfl (ob_cons ?_ (ob_cons rfl (ob_cons (Nat.le_refl _) (ob_cons (.inl ⟨rfl, rfl⟩) (ob_cons ?_ (ob_cons rfl (ob_cons rfl (ob_cons ?_ (ob_cons rfl (ob_cons ?_ (ob_cons ?_ (ob_cons ?_ (ob_cons ?_ (ob_cons h1 (ob_cons (by decide) (ob_cons (tabIs_self _) (ob_cons (Int.le_refl _) (ob_cons (by decide) (ob_cons ?_ (ob_cons ?_ (ob_cons ?_ (ob_cons ?_ ob_nil)))))))))))))))))))))))))))))))⟩
    · (rw [q]; rfl)
    · (rw [q]; done)
    · (rw [q]; done)
    · (rw [q]; done)
    · exact rfl
    · exact rfl
    · exact rfl
    · exact rfl
    · exact rfl
    · exact fun _ => rfl
    · with_reducible assumption
    · with_reducible assumption
    · with_reducible assumption
    · with_reducible assumption
theorem gv2_1 (n : Nat) (l : Nat) (f : Nat → Nat → AV) (h : Int) (a : Int) (S : MS) : callB EOr 2000 35 [AV.ptr 1 0 0, AV.ptr 3 0 0] (gv2H n l f h a S (tabF tab)) (gv2R n l f h a S (tabF tab)) [] [] =
 some ([((3 : Int) == (0 : Int)) = decide ((3 : Int) = (0 : Int)),
 true = true,
 (1 : Nat) ≤ (1 : Nat),
 tabF tab = tabF tab ∧ plainSh (List.map kindOfV tab) = true ∨ ∀ (i : Nat), i < 1 → rowOb (List.map kindOfV tab) 0 (tabF tab i) (tabF tab i),
 (3 : Int) = 3,
 mget S.M (key 4 0 0) = (gvO n (kOf f) S (GO.mk 2 h a)).h,
 (0 : Nat) = 0,
 n = n,
 (none : Option Nat) = none,
 a = (gvO n (kOf f) S (GO.mk 2 h a)).at_,
 false = false,
 l ≤ l,
 f = f ∧ plainSh [CK.int IntKind.i64] = true ∨ ∀ (i : Nat), i < l → rowOb [CK.int IntKind.i64] 0 (f i) (f i),
 IntKind.i64.wrap (S.st + 1) = (gvS n (kOf f) S (GO.mk 2 h a)).st,
 (1 : Int) = 1,
 (4 : Int) = 4,
 (0 : Int) = 0,
 (0 : Int) = 0,
 mget S.M (key 4 0 0) = (gvS n (kOf f) S (GO.mk 2 h a)).L.w,
 mget S.M (key 4 0 0) = (gvS n (kOf f) S (GO.mk 2 h a)).L.i,
 false = (gvS n (kOf f) S (GO.mk 2 h a)).L.d,
 ∀ (k : List Int), S.M k = (gvS n (kOf f) S (GO.mk 2 h a)).M k,
 TabIs tab (tabF tab),
 0 ≤ mget S.M (key 4 0 0),
 mget S.M (key 4 0 0) < 18446744073709551616]) := by kernel_rfl
theorem gv2_loc (n : Nat) (l : Nat) (f : Nat → Nat → AV) (h : Int) (a : Int) (S : MS) (FT : Nat → Nat → AV) : LocOk Tryd.prog 35 [.ptr 1 0 0, .ptr 3 0 0] (gv2H n l f h a S FT) (gv2R n l f h a S FT) := by
  refine loc_of_call EOr_ok (fun hp => ?_)
  have hFT : FT = tabF tab := hp _ (List.mem_cons_self ..)
  have hu : U64 S := hp _ (List.mem_cons_of_mem _ (List.mem_cons_self ..))
  clear hp
  subst hFT
  refine ⟨2000, _, _, _, gv2_1 .., (ob_cons ?_ (ob_cons rfl (ob_cons (Nat.le_refl _) (ob_cons (.inl ⟨rfl, rfl⟩) (ob_cons rfl (ob_cons ?_ (ob_cons rfl (ob_cons rfl (ob_cons rfl (ob_cons ?_ (ob_cons rfl (ob_cons (Nat.le_refl _) (ob_cons (.inl ⟨rfl, rfl⟩) (ob_cons ?_ (ob_cons rfl (ob_cons rfl (ob_cons rfl (ob_cons rfl (ob_cons ?_ (ob_cons ?_ (ob_cons ?_ (ob_cons ?_ (ob_cons (tabIs_self _) (ob_cons ?_ (ob_cons ?_ ob_nil)))))))))))))))))))))))))⟩
  · exact rfl
  · exact rfl
  · exact rfl
  · exact rfl
  · exact rfl
  · exact rfl
  · exact rfl
  · exact fun _ => rfl
  · exact (hu _).1
  · exact (hu _).2
theorem gv3_1 (n : Nat) (l : Nat) (f : Nat → Nat → AV) (h : Int) (a : Int) (S : MS) : callB EOr 2000 35 [AV.ptr 1 0 0, AV.ptr 3 0 0] (gv3H n l f h a S (tabF tab)) (gv3R n l f h a S (tabF tab)) [] [] =
 some ([((4 : Int) == (0 : Int)) = decide ((4 : Int) = (0 : Int)),
 true = true,
 (1 : Nat) ≤ (1 : Nat),
 tabF tab = tabF tab ∧ plainSh (List.map kindOfV tab) = true ∨ ∀ (i : Nat), i < 1 → rowOb (List.map kindOfV tab) 0 (tabF tab i) (tabF tab i),
 (4 : Int) = 4,
 h = (gvO n (kOf f) S (GO.mk 3 h a)).h,
 (0 : Nat) = 0,
 n = n,
 (none : Option Nat) = none,
 a = (gvO n (kOf f) S (GO.mk 3 h a)).at_,
 false = false,
 l ≤ l,
 f = f ∧ plainSh [CK.int IntKind.i64] = true ∨ ∀ (i : Nat), i < l → rowOb [CK.int IntKind.i64] 0 (f i) (f i),
 IntKind.i64.wrap (S.st + 1) = (gvS n (kOf f) S (GO.mk 3 h a)).st,
 (2 : Int) = 2,
 (9 : Int) = 9,
 avInt (f (0 + (IntKind.i64.wrap (Int.ofNat n - 1)).toNat) 0) = (gvS n (kOf f) S (GO.mk 3 h a)).L.a,
 (2 : Int) = 2,
 mget S.M (key 9 (avInt (f (0 + (IntKind.i64.wrap (Int.ofNat n - 1)).toNat) 0)) 2) = (gvS n (kOf f) S (GO.mk 3 h a)).L.w,
 memIs S.M 9 (avInt (f (0 + (IntKind.i64.wrap (Int.ofNat n - 1)).toNat) 0)) 2 (hHead (hSlot h) 0) = (gvS n (kOf f) S (GO.mk 3 h a)).L.i,
 false = (gvS n (kOf f) S (GO.mk 3 h a)).L.d,
 ∀ (k : List Int), memPut S.M 9 (avInt (f (0 + (IntKind.i64.wrap (Int.ofNat n - 1)).toNat) 0)) 2 (hHead (hSlot h) 0) k = (gvS n (kOf f) S (GO.mk 3 h a)).M k,
 (0 : Int) ≤ (9 : Int),
 TabIs tab (tabF tab),
 (0 : Int) ≤ (0 : Int),
 (0 : Int) < (18446744073709551616 : Int),
 (0 + (IntKind.i64.wrap (Int.ofNat n - 1)).toNat).blt l = true,
 ((IntKind.i64.wrap (Int.ofNat n - 1)).toNat.blt n && decide (0 ≤ IntKind.i64.wrap (Int.ofNat n - 1))) = true,
 TabIs tab (tabF tab),
 0 ≤ h,
 h < 18446744073709551616]) := by kernel_rfl
theorem gv3_loc (n : Nat) (l : Nat) (f : Nat → Nat → AV) (h : Int) (a : Int) (S : MS) (FT : Nat → Nat → AV) : LocOk Tryd.prog 35 [.ptr 1 0 0, .ptr 3 0 0] (gv3H n l f h a S FT) (gv3R n l f h a S FT) := by
  refine loc_of_call EOr_ok (fun hp => ?_)
  have hFT : FT = tabF tab := hp _ (List.mem_cons_self ..)
  have hu : U64 S := hp _ (List.mem_cons_of_mem _ (List.mem_cons_self ..))
  have hnl : n ≤ l := hp _ (List.mem_cons_of_mem _ (List.mem_cons_of_mem _ (List.mem_cons_self ..)))
  have hh : R64 h := hp _ (List.mem_cons_of_mem _ (List.mem_cons_of_mem _ (List.mem_cons_of_mem _ (List.mem_cons_self ..))))
  have hn0 : 0 < n := hp _ (List.mem_cons_of_mem _ (List.mem_cons_of_mem _ (List.mem_cons_of_mem _ (List.mem_cons_of_mem _ (List.mem_cons_self ..)))))
  have hn : n ≤ 1000000 := hp _ (List.mem_cons_of_mem _ (List.mem_cons_of_mem _ (List.mem_cons_of_mem _ (List.mem_cons_of_mem _ (List.mem_cons_of_mem _ (List.mem_cons_self ..))))))
  clear hp
  subst hFT
  have en : IntKind.i64.wrap (Int.ofNat n - 1) = Int.ofNat n - 1 := i64w (by simp; omega) (by simp; omega)
  have hat5 : ((IntKind.i64.wrap (Int.ofNat n - 1)).toNat.blt n && decide (0 ≤ IntKind.i64.wrap (Int.ofNat n - 1))) = true := by rw [en]; simp; omega
  have hat6 : (0 + (IntKind.i64.wrap (Int.ofNat n - 1)).toNat).blt l = true := by rw [en]; simp; omega
  refine ⟨2000, _, _, _, gv3_1 .., (ob_cons ?_ (ob_cons rfl (ob_cons (Nat.le_refl _) (ob_cons (.inl ⟨rfl, rfl⟩) (ob_cons rfl (ob_cons ?_ (ob_cons rfl (ob_cons rfl (ob_cons rfl (ob_cons ?_ (ob_cons rfl (ob_cons (Nat.le_refl _) (ob_cons (.inl ⟨rfl, rfl⟩) (ob_cons ?_ (ob_cons rfl (ob_cons rfl (ob_cons ?_ (ob_cons rfl (ob_cons ?_ (ob_cons ?_ (ob_cons ?_ (ob_cons ?_ (ob_cons (by decide) (ob_cons (tabIs_self _) (ob_cons (Int.le_refl _) (ob_cons (by decide) (ob_cons ?_ (ob_cons ?_ (ob_cons (tabIs_self _) (ob_cons ?_ (ob_cons ?_ ob_nil)))))))))))))))))))))))))))))))⟩
  · exact rfl
  · exact rfl
  · exact rfl
  · exact rfl
  · exact rfl
  · exact rfl
  · exact rfl
  · exact rfl
  · exact fun _ => rfl
  · with_reducible assumption
  · with_reducible assumption
  · exact hh.1
  · exact hh.2
theorem gv4a_1 (n : Nat) (l : Nat) (f : Nat → Nat → AV) (h : Int) (a : Int) (S : MS) : callB EOr 2000 35 [AV.ptr 1 0 0, AV.ptr 3 0 0] (gv4aH n l f h a S (tabF tab)) (gv4aR n l f h a S (tabF tab)) [] [Hint.node [], Hint.b true] =
 some ([((0 : Int) == (0 : Int)) = decide ((gvO n (kOf f) S (GO.mk (4 : Int) h a)).ln = (0 : Int)),
 true = true,
 (1 : Nat) ≤ (1 : Nat),
 tabF tab = tabF tab ∧ plainSh (List.map kindOfV tab) = true ∨ ∀ (i : Nat), i < 1 → rowOb (List.map kindOfV tab) 0 (tabF tab i) (tabF tab i),
 0 = (gvO n (kOf f) S (GO.mk 4 h a)).ln,
 h = (gvO n (kOf f) S (GO.mk 4 h a)).h,
 (0 : Nat) = 0,
 n = n,
 (none : Option Nat) = none,
 a = (gvO n (kOf f) S (GO.mk 4 h a)).at_,
 false = false,
 l ≤ l,
 f = f ∧ plainSh [CK.int IntKind.i64] = true ∨ ∀ (i : Nat), i < l → rowOb [CK.int IntKind.i64] 0 (f i) (f i),
 IntKind.i64.wrap (S.st + 1) = (gvS n (kOf f) S (GO.mk 4 h a)).st,
 (3 : Int) = 3,
 (4 : Int) = 4,
 (0 : Int) = 0,
 (0 : Int) = 0,
 mget S.M (key 4 0 0) = (gvS n (kOf f) S (GO.mk 4 h a)).L.w,
 casI S.M 4 0 0 h (hHead (avInt (f 0 0)) (IntKind.u64.wrap (hTag h + 1))) = (gvS n (kOf f) S (GO.mk 4 h a)).L.i,
 casD S.M 4 0 0 h = (gvS n (kOf f) S (GO.mk 4 h a)).L.d,
 ∀ (k : List Int), casM S.M 4 0 0 h (hHead (avInt (f 0 0)) (IntKind.u64.wrap (hTag h + 1))) k = (gvS n (kOf f) S (GO.mk 4 h a)).M k,
 casD S.M 4 0 0 h = true,
 (0 : Int) ≤ (4 : Int),
 TabIs tab (tabF tab),
 0 ≤ IntKind.u64.wrap (hTag h + 1),
 IntKind.u64.wrap (hTag h + 1) < 18446744073709551616,
 TabIs tab (tabF tab),
 0 ≤ h,
 h < 18446744073709551616,
 Nat.blt 0 l = true,
 (Nat.blt (0 : Nat) n && decide ((0 : Int) ≤ (0 : Int))) = true]) := by kernel_rfl
theorem gv4a_2 (n : Nat) (l : Nat) (f : Nat → Nat → AV) (h : Int) (a : Int) (S : MS) : callB EOr 2000 35 [AV.ptr 1 0 0, AV.ptr 3 0 0] (gv4aH n l f h a S (tabF tab)) (gv4aR n l f h a S (tabF tab)) [] [Hint.node [], Hint.b false] =
 some ([((2 : Int) == (0 : Int)) = decide ((gvO n (kOf f) S (GO.mk (4 : Int) h a)).ln = (0 : Int)),
 true = true,
 (1 : Nat) ≤ (1 : Nat),
 tabF tab = tabF tab ∧ plainSh (List.map kindOfV tab) = true ∨ ∀ (i : Nat), i < 1 → rowOb (List.map kindOfV tab) 0 (tabF tab i) (tabF tab i),
 2 = (gvO n (kOf f) S (GO.mk 4 h a)).ln,
 h = (gvO n (kOf f) S (GO.mk 4 h a)).h,
 (0 : Nat) = 0,
 n = n,
 (none : Option Nat) = none,
 a = (gvO n (kOf f) S (GO.mk 4 h a)).at_,
 false = false,
 l ≤ l,
 f = f ∧ plainSh [CK.int IntKind.i64] = true ∨ ∀ (i : Nat), i < l → rowOb [CK.int IntKind.i64] 0 (f i) (f i),
 IntKind.i64.wrap (S.st + 1) = (gvS n (kOf f) S (GO.mk 4 h a)).st,
 (3 : Int) = 3,
 (4 : Int) = 4,
 (0 : Int) = 0,
 (0 : Int) = 0,
 mget S.M (key 4 0 0) = (gvS n (kOf f) S (GO.mk 4 h a)).L.w,
 casI S.M 4 0 0 h (hHead (avInt (f 0 0)) (IntKind.u64.wrap (hTag h + 1))) = (gvS n (kOf f) S (GO.mk 4 h a)).L.i,
 casD S.M 4 0 0 h = (gvS n (kOf f) S (GO.mk 4 h a)).L.d,
 ∀ (k : List Int), casM S.M 4 0 0 h (hHead (avInt (f 0 0)) (IntKind.u64.wrap (hTag h + 1))) k = (gvS n (kOf f) S (GO.mk 4 h a)).M k,
 casD S.M 4 0 0 h = false,
 (0 : Int) ≤ (4 : Int),
 TabIs tab (tabF tab),
 0 ≤ IntKind.u64.wrap (hTag h + 1),
 IntKind.u64.wrap (hTag h + 1) < 18446744073709551616,
 TabIs tab (tabF tab),
 0 ≤ h,
 h < 18446744073709551616,
 Nat.blt 0 l = true,
 (Nat.blt (0 : Nat) n && decide ((0 : Int) ≤ (0 : Int))) = true]) := by kernel_rfl
theorem gv4a_loc (n : Nat) (l : Nat) (f : Nat → Nat → AV) (h : Int) (a : Int) (S : MS) (FT : Nat → Nat → AV) : LocOk Tryd.prog 35 [.ptr 1 0 0, .ptr 3 0 0] (gv4aH n l f h a S FT) (gv4aR n l f h a S FT) := by
  refine loc_of_call EOr_ok (fun hp => ?_)
  have hFT : FT = tabF tab := hp _ (List.mem_cons_self ..)
  have hu : U64 S := hp _ (List.mem_cons_of_mem _ (List.mem_cons_self ..))
  have hnl : n ≤ l := hp _ (List.mem_cons_of_mem _ (List.mem_cons_of_mem _ (List.mem_cons_self ..)))
  have hh : R64 h := hp _ (List.mem_cons_of_mem _ (List.mem_cons_of_mem _ (List.mem_cons_of_mem _ (List.mem_cons_self ..))))
  have hn0 : 0 < n := hp _ (List.mem_cons_of_mem _ (List.mem_cons_of_mem _ (List.mem_cons_of_mem _ (List.mem_cons_of_mem _ (List.mem_cons_self ..)))))
  have hn : n ≤ 1000000 := hp _ (List.mem_cons_of_mem _ (List.mem_cons_of_mem _ (List.mem_cons_of_mem _ (List.mem_cons_of_mem _ (List.mem_cons_of_mem _ (List.mem_cons_self ..))))))
  have hs : casD S.M 4 0 0 h = true := hp _ (List.mem_cons_of_mem _ (List.mem_cons_of_mem _ (List.mem_cons_of_mem _ (List.mem_cons_of_mem _ (List.mem_cons_of_mem _ (List.mem_cons_of_mem _ (List.mem_cons_self ..)))))))
  clear hp
  subst hFT
  have q := gvO_4a (n := n) (K := kOf f) (a := a) hs
  cases h1 : (casD S.M 4 0 0 h) with
  | true =>
    refine ⟨2000, _, _, _, gv4a_1 .., (ob_cons ?_ (ob_cons rfl (ob_cons (Nat.le_refl _) (ob_cons (.inl ⟨rfl, rfl⟩) (ob_cons ?_ (ob_cons ?_ (ob_cons rfl (ob_cons rfl (ob_cons rfl (ob_cons ?_ (ob_cons rfl (ob_cons (Nat.le_refl _) (ob_cons (.inl ⟨rfl, rfl⟩) (ob_cons ?_ (ob_cons rfl (ob_cons rfl (ob_cons rfl (ob_cons rfl (ob_cons ?_ (ob_cons ?_ (ob_cons ?_ (ob_cons ?_ (ob_cons h1 (ob_cons (by decide) (ob_cons (tabIs_self _) (ob_cons ?_ (ob_cons ?_ (ob_cons (tabIs_self _) (ob_cons ?_ (ob_cons ?_ (ob_cons ?_ (ob_cons ?_ ob_nil))))))))))))))))))))))))))))))))⟩
    · (rw [q]; rfl)
    · (rw [q]; done)
    · (rw [q]; done)
    · (rw [q]; done)
    · exact rfl
    · exact rfl
    · exact rfl
    · exact rfl
    · exact fun _ => rfl
    · exact (w64_r _).1
    · exact (w64_r _).2
    · exact hh.1
    · exact hh.2
    · (apply Nat.ble_eq_true_of_le; omega)
    · (simp [Nat.blt_eq]; omega)
  | false =>
    refine ⟨2000, _, _, _, gv4a_2 .., (ob_cons ?_ (ob_cons rfl (ob_cons (Nat.le_refl _) (ob_cons (.inl ⟨rfl, rfl⟩) (ob_cons ?_ (ob_cons ?_ (ob_cons rfl (ob_cons rfl (ob_cons rfl (ob_cons ?_ (ob_cons rfl (ob_cons (Nat.le_refl _) (ob_cons (.inl ⟨rfl, rfl⟩) (ob_cons ?_ (ob_cons rfl (ob_cons rfl (ob_cons rfl (ob_cons rfl (ob_cons ?_ (ob_cons ?_ (ob_cons ?_ (ob_cons ?_ (ob_cons h1 (ob_cons (by decide) (ob_cons (tabIs_self _) (ob_cons ?_ (ob_cons ?_ (ob_cons (tabIs_self _) (ob_cons ?_ (ob_cons ?_ (ob_cons ?_ (ob_cons ?_ ob_nil))))))))))))))))))))))))))))))))⟩
    · exact absurd hs (by simpa using h1)
    · exact absurd hs (by simpa using h1)
    · exact absurd hs (by simpa using h1)
    · exact absurd hs (by simpa using h1)
    · exact absurd hs (by simpa using h1)
    · exact absurd hs (by simpa using h1)
    · exact absurd hs (by simpa using h1)
    · exact absurd hs (by simpa using h1)
    · exact absurd hs (by simpa using h1)
    · exact absurd hs (by simpa using h1)
    · exact absurd hs (by simpa using h1)
    · exact absurd hs (by simpa using h1)
    · exact absurd hs (by simpa using h1)
    · exact absurd hs (by simpa using h1)
    · exact absurd hs (by simpa using h1)
theorem gv4b_1 (n : Nat) (l : Nat) (f : Nat → Nat → AV) (h : Int) (a : Int) (S : MS) : callB EOr 2000 35 [AV.ptr 1 0 0, AV.ptr 3 0 0] (gv4bH n l f h a S (tabF tab)) (gv4bR n l f h a S (tabF tab)) [] [Hint.node [], Hint.b true] =
 some ([((0 : Int) == (0 : Int)) = decide ((gvO n (kOf f) S (GO.mk (4 : Int) h a)).ln = (0 : Int)),
 true = true,
 (1 : Nat) ≤ (1 : Nat),
 tabF tab = tabF tab ∧ plainSh (List.map kindOfV tab) = true ∨ ∀ (i : Nat), i < 1 → rowOb (List.map kindOfV tab) 0 (tabF tab i) (tabF tab i),
 0 = (gvO n (kOf f) S (GO.mk 4 h a)).ln,
 h = (gvO n (kOf f) S (GO.mk 4 h a)).h,
 (0 : Nat) = 0,
 n = n,
 (none : Option Nat) = none,
 a = (gvO n (kOf f) S (GO.mk 4 h a)).at_,
 false = false,
 l ≤ l,
 f = f ∧ plainSh [CK.int IntKind.i64] = true ∨ ∀ (i : Nat), i < l → rowOb [CK.int IntKind.i64] 0 (f i) (f i),
 IntKind.i64.wrap (S.st + 1) = (gvS n (kOf f) S (GO.mk 4 h a)).st,
 (3 : Int) = 3,
 (4 : Int) = 4,
 (0 : Int) = 0,
 (0 : Int) = 0,
 mget S.M (key 4 0 0) = (gvS n (kOf f) S (GO.mk 4 h a)).L.w,
 casI S.M 4 0 0 h (hHead (avInt (f 0 0)) (IntKind.u64.wrap (hTag h + 1))) = (gvS n (kOf f) S (GO.mk 4 h a)).L.i,
 casD S.M 4 0 0 h = (gvS n (kOf f) S (GO.mk 4 h a)).L.d,
 ∀ (k : List Int), casM S.M 4 0 0 h (hHead (avInt (f 0 0)) (IntKind.u64.wrap (hTag h + 1))) k = (gvS n (kOf f) S (GO.mk 4 h a)).M k,
 casD S.M 4 0 0 h = true,
 (0 : Int) ≤ (4 : Int),
 TabIs tab (tabF tab),
 0 ≤ IntKind.u64.wrap (hTag h + 1),
 IntKind.u64.wrap (hTag h + 1) < 18446744073709551616,
 TabIs tab (tabF tab),
 0 ≤ h,
 h < 18446744073709551616,
 Nat.blt 0 l = true,
 (Nat.blt (0 : Nat) n && decide ((0 : Int) ≤ (0 : Int))) = true]) := by kernel_rfl
theorem gv4b_2 (n : Nat) (l : Nat) (f : Nat → Nat → AV) (h : Int) (a : Int) (S : MS) : callB EOr 2000 35 [AV.ptr 1 0 0, AV.ptr 3 0 0] (gv4bH n l f h a S (tabF tab)) (gv4bR n l f h a S (tabF tab)) [] [Hint.node [], Hint.b false] =
 some ([((2 : Int) == (0 : Int)) = decide ((gvO n (kOf f) S (GO.mk (4 : Int) h a)).ln = (0 : Int)),
 true = true,
 (1 : Nat) ≤ (1 : Nat),
 tabF tab = tabF tab ∧ plainSh (List.map kindOfV tab) = true ∨ ∀ (i : Nat), i < 1 → rowOb (List.map kindOfV tab) 0 (tabF tab i) (tabF tab i),
 2 = (gvO n (kOf f) S (GO.mk 4 h a)).ln,
 h = (gvO n (kOf f) S (GO.mk 4 h a)).h,
 (0 : Nat) = 0,
 n = n,
 (none : Option Nat) = none,
 a = (gvO n (kOf f) S (GO.mk 4 h a)).at_,
 false = false,
 l ≤ l,
 f = f ∧ plainSh [CK.int IntKind.i64] = true ∨ ∀ (i : Nat), i < l → rowOb [CK.int IntKind.i64] 0 (f i) (f i),
 IntKind.i64.wrap (S.st + 1) = (gvS n (kOf f) S (GO.mk 4 h a)).st,
 (3 : Int) = 3,
 (4 : Int) = 4,
 (0 : Int) = 0,
 (0 : Int) = 0,
 mget S.M (key 4 0 0) = (gvS n (kOf f) S (GO.mk 4 h a)).L.w,
 casI S.M 4 0 0 h (hHead (avInt (f 0 0)) (IntKind.u64.wrap (hTag h + 1))) = (gvS n (kOf f) S (GO.mk 4 h a)).L.i,
 casD S.M 4 0 0 h = (gvS n (kOf f) S (GO.mk 4 h a)).L.d,
 ∀ (k : List Int), casM S.M 4 0 0 h (hHead (avInt (f 0 0)) (IntKind.u64.wrap (hTag h + 1))) k = (gvS n (kOf f) S (GO.mk 4 h a)).M k,
 casD S.M 4 0 0 h = false,
 (0 : Int) ≤ (4 : Int),
 TabIs tab (tabF tab),
 0 ≤ IntKind.u64.wrap (hTag h + 1),
 IntKind.u64.wrap (hTag h + 1) < 18446744073709551616,
 TabIs tab (tabF tab),
 0 ≤ h,
 h < 18446744073709551616,
 Nat.blt 0 l = true,
 (Nat.blt (0 : Nat) n && decide ((0 : Int) ≤ (0 : Int))) = true]) := by kernel_rfl
theorem gv4b_loc (n : Nat) (l : Nat) (f : Nat → Nat → AV) (h : Int) (a : Int) (S : MS) (FT : Nat → Nat → AV) : LocOk Tryd.prog 35 [.ptr 1 0 0, .ptr 3 0 0] (gv4bH n l f h a S FT) (gv4bR n l f h a S FT) := by
  refine loc_of_call EOr_ok (fun hp => ?_)
  have hFT : FT = tabF tab := hp _ (List.mem_cons_self ..)
  have hu : U64 S := hp _ (List.mem_cons_of_mem _ (List.mem_cons_self ..))
  have hnl : n ≤ l := hp _ (List.mem_cons_of_mem _ (List.mem_cons_of_mem _ (List.mem_cons_self ..)))
  have hh : R64 h := hp _ (List.mem_cons_of_mem _ (List.mem_cons_of_mem _ (List.mem_cons_of_mem _ (List.mem_cons_self ..))))
  have hn0 : 0 < n := hp _ (List.mem_cons_of_mem _ (List.mem_cons_of_mem _ (List.mem_cons_of_mem _ (List.mem_cons_of_mem _ (List.mem_cons_self ..)))))
  have hn : n ≤ 1000000 := hp _ (List.mem_cons_of_mem _ (List.mem_cons_of_mem _ (List.mem_cons_of_mem _ (List.mem_cons_of_mem _ (List.mem_cons_of_mem _ (List.mem_cons_self ..))))))
  have hs : ¬ casD S.M 4 0 0 h = true := hp _ (List.mem_cons_of_mem _ (List.mem_cons_of_mem _ (List.mem_cons_of_mem _ (List.mem_cons_of_mem _ (List.mem_cons_of_mem _ (List.mem_cons_of_mem _ (List.mem_cons_self ..)))))))
  clear hp
  subst hFT
  have q := gvO_4b (n := n) (K := kOf f) (a := a) hs
  have hsF : casD S.M 4 0 0 h = false := by simpa using hs
  cases h1 : (casD S.M 4 0 0 h) with
  | true =>
    refine ⟨2000, _, _, _, gv4b_1 .., (ob_cons ?_ (ob_cons rfl (ob_cons (Nat.le_refl _) (ob_cons (.inl ⟨rfl, rfl⟩) (ob_cons ?_ (ob_cons ?_ (ob_cons rfl (ob_cons rfl (ob_cons rfl (ob_cons ?_ (ob_cons rfl (ob_cons (Nat.le_refl _) (ob_cons (.inl ⟨rfl, rfl⟩) (ob_cons ?_ (ob_cons rfl (ob_cons rfl (ob_cons rfl (ob_cons rfl (ob_cons ?_ (ob_cons ?_ (ob_cons ?_ (ob_cons ?_ (ob_cons h1 (ob_cons (by decide) (ob_cons (tabIs_self _) (ob_cons ?_ (ob_cons ?_ (ob_cons (tabIs_self _) (ob_cons ?_ (ob_cons ?_ (ob_cons ?_ (ob_cons ?_ ob_nil))))))))))))))))))))))))))))))))⟩
    · exact absurd hs (by simpa using h1)
    · exact absurd hs (by simpa using h1)
    · exact absurd hs (by simpa using h1)
    · exact absurd hs (by simpa using h1)
    · exact absurd hs (by simpa using h1)
    · exact absurd hs (by simpa using h1)
    · exact absurd hs (by simpa using h1)
    · exact absurd hs (by simpa using h1)
    · exact absurd hs (by simpa using h1)
    · exact absurd hs (by simpa using h1)
    · exact absurd hs (by simpa using h1)
    · exact absurd hs (by simpa using h1)
    · exact absurd hs (by simpa using h1)
    · exact absurd hs (by simpa using h1)
    · exact absurd hs (by simpa using h1)
  | false =>
    refine ⟨2000, _, _, _, gv4b_2 .., (ob_cons ?_ (ob_cons rfl (ob_cons (Nat.le_refl _) (ob_cons (.inl ⟨rfl, rfl⟩) (ob_cons ?_ (ob_cons ?_ (ob_cons rfl (ob_cons rfl (ob_cons rfl (ob_cons ?_ (ob_cons rfl (ob_cons (Nat.le_refl _) (ob_cons (.inl ⟨rfl, rfl⟩) (ob_cons ?_ (ob_cons rfl (ob_cons rfl (ob_cons rfl (ob_cons rfl (ob_cons ?_ (ob_cons ?_ (ob_cons ?_ (ob_cons ?_ (ob_cons h1 (ob_cons (by decide) (ob_cons (tabIs_self _) (ob_cons ?_ (ob_cons ?_ (ob_cons (tabIs_self _) (ob_cons ?_ (ob_cons ?_ (ob_cons ?_ (ob_cons ?_ ob_nil))))))))))))))))))))))))))))))))⟩
    · (rw [q]; rfl)
    · (rw [q]; done)
    · (rw [q]; done)
    · (rw [q]; done)
    · exact rfl
    · exact rfl
    · exact rfl
    · exact rfl
    · exact fun _ => rfl
    · exact (w64_r _).1
    · exact (w64_r _).2
    · exact hh.1
    · exact hh.2
    · (apply Nat.ble_eq_true_of_le; omega)
    · (simp [Nat.blt_eq]; omega)
end Go.Proofs.YtmndhjodbnojdaaDoor
