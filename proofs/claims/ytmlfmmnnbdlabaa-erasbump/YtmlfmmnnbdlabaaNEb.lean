/-
  Bumps of the era.
-/
import Derived.Test.YtmlfmmnnbdlabaaNEbDef
set_option linter.unusedSimpArgs false
set_option linter.unusedVariables false
namespace Go.Proofs.Ytmlfmmnnbdlabaa
open Go.Ev
theorem bst_1 (l e : Int) (v : Bool) (st c k a f w i : Int) (d : Bool) (M : List Int → Option Int) : callB EMo2 2000 57 [AV.ptr 1 0 0, AV.ptr 2 0 0] (bstH l e v st c k a f w i d M) (bstR l e v st c k a f w i d M) [] [Hint.b true] =
 some ([true = (bL l == 0),
 l = bL l,
 e = bE l e M,
 v = bV l e v M,
 st = (bSt l e M st c k a f w i d).st,
 c = (bSt l e M st c k a f w i d).L.c,
 k = (bSt l e M st c k a f w i d).L.k,
 a = (bSt l e M st c k a f w i d).L.a,
 f = (bSt l e M st c k a f w i d).L.f,
 w = (bSt l e M st c k a f w i d).L.w,
 i = (bSt l e M st c k a f w i d).L.i,
 d = (bSt l e M st c k a f w i d).L.d,
 ∀ (k : List Int), M k = bM l e M k,
 (l == 0) = true]) := by kernel_rfl
theorem bst_2 (l e : Int) (v : Bool) (st c k a f w i : Int) (d : Bool) (M : List Int → Option Int) : callB EMo2 2000 57 [AV.ptr 1 0 0, AV.ptr 2 0 0] (bstH l e v st c k a f w i d M) (bstR l e v st c k a f w i d M) [] [Hint.b false, Hint.b true] =
 some ([(IntKind.i64.wrap (l - 1) == 0) = (bL l == 0),
 IntKind.i64.wrap (l - 1) = bL l,
 mget M (key 2 0 0) = bE l e M,
 v = bV l e v M,
 IntKind.i64.wrap (st + 1) = (bSt l e M st c k a f w i d).st,
 1 = (bSt l e M st c k a f w i d).L.c,
 2 = (bSt l e M st c k a f w i d).L.k,
 0 = (bSt l e M st c k a f w i d).L.a,
 0 = (bSt l e M st c k a f w i d).L.f,
 mget M (key 2 0 0) = (bSt l e M st c k a f w i d).L.w,
 mget M (key 2 0 0) = (bSt l e M st c k a f w i d).L.i,
 false = (bSt l e M st c k a f w i d).L.d,
 ∀ (k : List Int), M k = bM l e M k,
 (l == 2) = true,
 (l == 0) = false]) := by kernel_rfl
theorem bst_3 (l e : Int) (v : Bool) (st c k a f w i : Int) (d : Bool) (M : List Int → Option Int) : callB EMo2 2000 57 [AV.ptr 1 0 0, AV.ptr 2 0 0] (bstH l e v st c k a f w i d M) (bstR l e v st c k a f w i d M) [] [Hint.b false, Hint.b false] =
 some ([(IntKind.i64.wrap (l - 1) == 0) = (bL l == 0),
 IntKind.i64.wrap (l - 1) = bL l,
 e = bE l e M,
 casD M 2 0 0 e = bV l e v M,
 IntKind.i64.wrap (st + 1) = (bSt l e M st c k a f w i d).st,
 3 = (bSt l e M st c k a f w i d).L.c,
 2 = (bSt l e M st c k a f w i d).L.k,
 0 = (bSt l e M st c k a f w i d).L.a,
 0 = (bSt l e M st c k a f w i d).L.f,
 mget M (key 2 0 0) = (bSt l e M st c k a f w i d).L.w,
 casI M 2 0 0 e (IntKind.u64.wrap (e + 1)) = (bSt l e M st c k a f w i d).L.i,
 casD M 2 0 0 e = (bSt l e M st c k a f w i d).L.d,
 ∀ (k : List Int), casM M 2 0 0 e (IntKind.u64.wrap (e + 1)) k = bM l e M k,
 (0 : Int) ≤ (2 : Int),
 (l == 2) = false,
 (l == 0) = false]) := by kernel_rfl
theorem bst_loc (l e : Int) (v : Bool) (st c k a f w i : Int) (d : Bool) (M : List Int → Option Int) : LocOk Try.prog 57 [.ptr 1 0 0, .ptr 2 0 0] (bstH l e v st c k a f w i d M) (bstR l e v st c k a f w i d M) := by
  refine loc_of_call EMo2_ok (fun hp => ?_)
  clear hp
  cases h1 : (l == 0) with
  | true =>
    refine ⟨2000, _, _, _, bst_1 .., (cj ⟨(by (simp_all [bL, bE, bV, bM, bSt, bS, mLoad, mCas]; done)), (by (simp_all [bL, bE, bV, bM, bSt, bS, mLoad, mCas]; done)), (by (simp_all [bL, bE, bV, bM, bSt, bS, mLoad, mCas]; done)), (by (simp_all [bL, bE, bV, bM, bSt, bS, mLoad, mCas]; done)), (by (simp_all [bL, bE, bV, bM, bSt, bS, mLoad, mCas]; done)), (by (simp_all [bL, bE, bV, bM, bSt, bS, mLoad, mCas]; done)), (by (simp_all [bL, bE, bV, bM, bSt, bS, mLoad, mCas]; done)), (by (simp_all [bL, bE, bV, bM, bSt, bS, mLoad, mCas]; done)), (by (simp_all [bL, bE, bV, bM, bSt, bS, mLoad, mCas]; done)), (by (simp_all [bL, bE, bV, bM, bSt, bS, mLoad, mCas]; done)), (by (simp_all [bL, bE, bV, bM, bSt, bS, mLoad, mCas]; done)), (by (simp_all [bL, bE, bV, bM, bSt, bS, mLoad, mCas]; done)), (by (simp_all [bL, bE, bV, bM, bSt, bS, mLoad, mCas]; done)), h1, trivial⟩)⟩
  | false =>
    cases h2 : (l == 2) with
    | true =>
      refine ⟨2000, _, _, _, bst_2 .., (cj ⟨(by (simp_all [bL, bE, bV, bM, bSt, bS, mLoad, mCas]; done)), (by (simp_all [bL, bE, bV, bM, bSt, bS, mLoad, mCas]; done)), (by (simp_all [bL, bE, bV, bM, bSt, bS, mLoad, mCas]; done)), (by (simp_all [bL, bE, bV, bM, bSt, bS, mLoad, mCas]; done)), (by (simp_all [bL, bE, bV, bM, bSt, bS, mLoad, mCas]; done)), (by (simp_all [bL, bE, bV, bM, bSt, bS, mLoad, mCas]; done)), (by (simp_all [bL, bE, bV, bM, bSt, bS, mLoad, mCas]; done)), (by (simp_all [bL, bE, bV, bM, bSt, bS, mLoad, mCas]; done)), (by (simp_all [bL, bE, bV, bM, bSt, bS, mLoad, mCas]; done)), (by (simp_all [bL, bE, bV, bM, bSt, bS, mLoad, mCas]; done)), (by (simp_all [bL, bE, bV, bM, bSt, bS, mLoad, mCas]; done)), (by (simp_all [bL, bE, bV, bM, bSt, bS, mLoad, mCas]; done)), (by (simp_all [bL, bE, bV, bM, bSt, bS, mLoad, mCas]; done)), h2, h1, trivial⟩)⟩
    | false =>
      refine ⟨2000, _, _, _, bst_3 .., (cj ⟨(by (simp_all [bL, bE, bV, bM, bSt, bS, mLoad, mCas]; done)), (by (simp_all [bL, bE, bV, bM, bSt, bS, mLoad, mCas]; done)), (by (simp_all [bL, bE, bV, bM, bSt, bS, mLoad, mCas]; done)), (by (simp_all [bL, bE, bV, bM, bSt, bS, mLoad, mCas]; done)), (by (simp_all [bL, bE, bV, bM, bSt, bS, mLoad, mCas]; done)), (by (simp_all [bL, bE, bV, bM, bSt, bS, mLoad, mCas]; done)), (by (simp_all [bL, bE, bV, bM, bSt, bS, mLoad, mCas]; done)), (by (simp_all [bL, bE, bV, bM, bSt, bS, mLoad, mCas]; done)), (by (simp_all [bL, bE, bV, bM, bSt, bS, mLoad, mCas]; done)), (by (simp_all [bL, bE, bV, bM, bSt, bS, mLoad, mCas]; done)), (by (simp_all [bL, bE, bV, bM, bSt, bS, mLoad, mCas]; done)), (by (simp_all [bL, bE, bV, bM, bSt, bS, mLoad, mCas]; done)), (by (simp_all [bL, bE, bV, bM, bSt, bS, mLoad, mCas]; done)), (by decide), h2, h1, trivial⟩)⟩
noncomputable def bstSpec : LSpec := fun la lh => match la, lh with
  | [.ptr z1 z2 z3, .ptr z4 z5 z6], [(z7, .cells z8 [.sym .i64 l, .sym .u64 e, .symb v]), (z9, .cells z10 [.map z11, .sym .i64 st, .sym .u8 c, .sym .u8 k, .sym .i64 a, .sym .i64 f, .sym .u64 w, .sym .u64 i, .symb d]), (z12, .map z13 M)] =>
    match Nat.beq z1 1 && (Nat.beq z2 0 && (Nat.beq z3 0 && (Nat.beq z4 2 && (Nat.beq z5 0 && (Nat.beq z6 0 && (Nat.beq z7 1 && (Nat.beq z8 3 && (Nat.beq z9 2 && (Nat.beq z10 9 && (Nat.beq z11 3 && (Nat.beq z12 3 && (Nat.beq z13 128)))))))))))) with
    | true => some (bstR l e v st c k a f w i d M)
    | false => none
  | _, _ => none
theorem bstSpec_ok (la : List AV) (lh : List (Nat × AO)) (R : LR) (h : bstSpec la lh = some R) : LocOk Try.prog 57 la lh R := by
  unfold bstSpec at h
  split at h
  · rename_i z1 z2 z3 z4 z5 z6 z7 z8 l e v z9 z10 z11 st c k a f w i d z12 z13 M
    split at h
    · rename_i hb
      simp only [Bool.and_eq_true] at hb
      obtain ⟨e1, e2, e3, e4, e5, e6, e7, e8, e9, e10, e11, e12, e13⟩ := hb
      have e1 := Nat.eq_of_beq_eq_true e1; subst e1
      have e2 := Nat.eq_of_beq_eq_true e2; subst e2
      have e3 := Nat.eq_of_beq_eq_true e3; subst e3
      have e4 := Nat.eq_of_beq_eq_true e4; subst e4
      have e5 := Nat.eq_of_beq_eq_true e5; subst e5
      have e6 := Nat.eq_of_beq_eq_true e6; subst e6
      have e7 := Nat.eq_of_beq_eq_true e7; subst e7
      have e8 := Nat.eq_of_beq_eq_true e8; subst e8
      have e9 := Nat.eq_of_beq_eq_true e9; subst e9
      have e10 := Nat.eq_of_beq_eq_true e10; subst e10
      have e11 := Nat.eq_of_beq_eq_true e11; subst e11
      have e12 := Nat.eq_of_beq_eq_true e12; subst e12
      have e13 := Nat.eq_of_beq_eq_true e13; subst e13
      cases h
      exact bst_loc l e v st c k a f w i d M
    · cases h
  · cases h

end Go.Proofs.Ytmlfmmnnbdlabaa
