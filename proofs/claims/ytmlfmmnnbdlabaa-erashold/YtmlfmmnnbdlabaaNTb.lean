/-
  Snapshots: the first step of the Taker.
-/
import Derived.Test.YtmlfmmnnbdlabaaNTbDef
set_option linter.unusedSimpArgs false
set_option linter.unusedVariables false
namespace Go.Proofs.Ytmlfmmnnbdlabaa
open Go.Ev
theorem tba_1 (M : List Int → Option Int) (m0 at0 fi0 al0 st c0 k0 a0 f0 w0 i0 : Int) (d0 : Bool) : callB EMo3 2000 33 [AV.ptr 1 0 0, AV.ptr 2 0 0] (tbaH M m0 at0 fi0 al0 st c0 k0 a0 f0 w0 i0 d0) (tbaR M m0 at0 fi0 al0 st c0 k0 a0 f0 w0 i0 d0) [(4, Src.nm 4)] [Hint.b false] =
 some ([(0 : Nat) = 0,
 (0 : Nat) = 0,
 (0 : Nat) = 0,
 (IntKind.i64.wrap (IntKind.i64.wrap (if 4 < mget M (key 5 0 0) then 4 else mget M (key 5 0 0)) * 4)).toNat = (tbN M).toNat,
 some (IntKind.i64.wrap (IntKind.i64.wrap (if 4 < mget M (key 5 0 0) then 4 else mget M (key 5 0 0)) * 4)).toNat = some (tbN M).toNat,
 m0 = m0,
 at0 = at0,
 fi0 = fi0,
 IntKind.i64.wrap (IntKind.i64.wrap (if 4 < mget M (key 5 0 0) then 4 else mget M (key 5 0 0)) * 4) = tbN M,
 false = false,
 (tbN M).toNat ≤ (IntKind.i64.wrap (IntKind.i64.wrap (if 4 < mget M (key 5 0 0) then 4 else mget M (key 5 0 0)) * 4)).toNat,
 (tF0 = fun x j => match nth (ofVal (Value.agg #[Value.int IntKind.u64 0, Value.int IntKind.u64 0, Value.int IntKind.u64 0, Value.int IntKind.u64 0, Value.int IntKind.u64 0, Value.int IntKind.u64 0, Value.int IntKind.u64 0, Value.int IntKind.u64 0, Value.int IntKind.u64 0, Value.int IntKind.u64 0])).cells j with | some v => v | none => AV.top) ∧ plainSh (List.map kindOf (ofVal (Value.agg #[Value.int IntKind.u64 0, Value.int IntKind.u64 0, Value.int IntKind.u64 0, Value.int IntKind.u64 0, Value.int IntKind.u64 0, Value.int IntKind.u64 0, Value.int IntKind.u64 0, Value.int IntKind.u64 0, Value.int IntKind.u64 0, Value.int IntKind.u64 0])).cells) = true ∨ ∀ (i : Nat), i < (tbN M).toNat → rowOb (List.map kindOf (ofVal (Value.agg #[Value.int IntKind.u64 0, Value.int IntKind.u64 0, Value.int IntKind.u64 0, Value.int IntKind.u64 0, Value.int IntKind.u64 0, Value.int IntKind.u64 0, Value.int IntKind.u64 0, Value.int IntKind.u64 0, Value.int IntKind.u64 0, Value.int IntKind.u64 0])).cells) 0 (fun j => match nth (ofVal (Value.agg #[Value.int IntKind.u64 0, Value.int IntKind.u64 0, Value.int IntKind.u64 0, Value.int IntKind.u64 0, Value.int IntKind.u64 0, Value.int IntKind.u64 0, Value.int IntKind.u64 0, Value.int IntKind.u64 0, Value.int IntKind.u64 0, Value.int IntKind.u64 0])).cells j with | some v => v | none => AV.top) (tF0 i),
 IntKind.i64.wrap (st + 1) = IntKind.i64.wrap (st + 1),
 (1 : Int) = 1,
 (5 : Int) = 5,
 (0 : Int) = 0,
 (0 : Int) = 0,
 mget M (key 5 0 0) = mget M (key 5 0 0),
 mget M (key 5 0 0) = mget M (key 5 0 0),
 false = false,
 ∀ (k : List Int), M k = M k,
 (IntKind.i64.wrap (IntKind.i64.wrap (if 4 < mget M (key 5 0 0) then 4 else mget M (key 5 0 0)) * 4) == 0) = false,
 (decide (0 ≤ IntKind.i64.wrap (IntKind.i64.wrap (if 4 < mget M (key 5 0 0) then 4 else mget M (key 5 0 0)) * 4)) && decide (IntKind.i64.wrap (IntKind.i64.wrap (if 4 < mget M (key 5 0 0) then 4 else mget M (key 5 0 0)) * 4) ≤ IntKind.i64.wrap (IntKind.i64.wrap (if 4 < mget M (key 5 0 0) then 4 else mget M (key 5 0 0)) * 4)) && decide (80 * IntKind.i64.wrap (IntKind.i64.wrap (if 4 < mget M (key 5 0 0) then 4 else mget M (key 5 0 0)) * 4) ≤ 140737488355328) && decide (IntKind.i64.wrap (IntKind.i64.wrap (if 4 < mget M (key 5 0 0) then 4 else mget M (key 5 0 0)) * 4) ≤ 9223372036854775807)) = true]) := by kernel_rfl
theorem tba_loc (M : List Int → Option Int) (m0 at0 fi0 al0 st c0 k0 a0 f0 w0 i0 : Int) (d0 : Bool) : LocOk Try.prog 33 [.ptr 1 0 0, .ptr 2 0 0] (tbaH M m0 at0 fi0 al0 st c0 k0 a0 f0 w0 i0 d0) (tbaR M m0 at0 fi0 al0 st c0 k0 a0 f0 w0 i0 d0) := by
  refine loc_of_call EMo3_ok (fun hp => ?_)
  have h0 : 0 ≤ mget M (key 5 0 0) := hp _ (List.mem_cons_self ..)
  have hn : tbN M ≠ 0 := hp _ (List.mem_cons_of_mem _ (List.mem_cons_self ..))
  clear hp
  obtain ⟨e1, e2, e3⟩ := tb_w h0
  obtain ⟨n, hN⟩ : ∃ n : Nat, (n : Int) = tbN M := ⟨(tbN M).toNat, by omega⟩
  refine ⟨2000, _, _, _, tba_1 .., (ob_cons rfl (ob_cons rfl (ob_cons rfl (ob_cons ?_ (ob_cons ?_ (ob_cons rfl (ob_cons rfl (ob_cons rfl (ob_cons ?_ (ob_cons rfl (ob_cons ?_ (ob_cons ?_ (ob_cons rfl (ob_cons rfl (ob_cons rfl (ob_cons rfl (ob_cons rfl (ob_cons rfl (ob_cons rfl (ob_cons rfl (ob_cons (fun _ => rfl) (ob_cons ?_ (ob_cons ?_ ob_nil)))))))))))))))))))))))⟩
  ·
    first | exact e1 | exact congrArg some (by omega) | (exact .inr (fun _ _ => ⟨rfl, rfl, rfl, rfl, rfl, rfl, rfl, rfl, rfl, rfl, trivial⟩)) | (rw [e1]; simp; omega) | (simp [e1, hn]; done) | exact ew | exact eN | exact eT | exact eZ | exact hrw | exact hmk | exact rfl | omega | rfl
  ·
    first | exact e1 | exact congrArg some (by omega) | (exact .inr (fun _ _ => ⟨rfl, rfl, rfl, rfl, rfl, rfl, rfl, rfl, rfl, rfl, trivial⟩)) | (rw [e1]; simp; omega) | (simp [e1, hn]; done) | exact ew | exact eN | exact eT | exact eZ | exact hrw | exact hmk | exact rfl | omega | rfl
  ·
    first | exact e1 | exact congrArg some (by omega) | (exact .inr (fun _ _ => ⟨rfl, rfl, rfl, rfl, rfl, rfl, rfl, rfl, rfl, rfl, trivial⟩)) | (rw [e1]; simp; omega) | (simp [e1, hn]; done) | exact ew | exact eN | exact eT | exact eZ | exact hrw | exact hmk | exact rfl | omega | exact wrap_nat64 _ (by simp; omega) (by simp; omega)
  ·
    first | exact e1 | exact congrArg some (by omega) | (exact .inr (fun _ _ => ⟨rfl, rfl, rfl, rfl, rfl, rfl, rfl, rfl, rfl, rfl, trivial⟩)) | (rw [e1]; simp; omega) | (simp [e1, hn]; done) | exact ew | exact eN | exact eT | exact eZ | exact hrw | exact hmk | exact rfl | omega | exact Nat.le_refl _ | omega
  ·
    first | exact e1 | exact congrArg some (by omega) | (exact .inr (fun _ _ => ⟨rfl, rfl, rfl, rfl, rfl, rfl, rfl, rfl, rfl, rfl, trivial⟩)) | (rw [e1]; simp; omega) | (simp [e1, hn]; done) | exact ew | exact eN | exact eT | exact eZ | exact hrw | exact hmk | exact rfl | omega | exact .inl ⟨rfl, rfl⟩
  ·
    first | exact e1 | exact congrArg some (by omega) | (exact .inr (fun _ _ => ⟨rfl, rfl, rfl, rfl, rfl, rfl, rfl, rfl, rfl, rfl, trivial⟩)) | (rw [e1]; simp; omega) | (simp [e1, hn]; done) | exact ew | exact eN | exact eT | exact eZ | exact hrw | exact hmk | exact rfl | omega | (apply Nat.ble_eq_true_of_le; omega) | (simp [Nat.blt_eq]; omega)
  ·
    first | exact e1 | exact congrArg some (by omega) | (exact .inr (fun _ _ => ⟨rfl, rfl, rfl, rfl, rfl, rfl, rfl, rfl, rfl, rfl, trivial⟩)) | (rw [e1]; simp; omega) | (simp [e1, hn]; done) | exact ew | exact eN | exact eT | exact eZ | exact hrw | exact hmk | exact rfl | omega | (apply Nat.ble_eq_true_of_le; omega) | (simp [Nat.blt_eq]; omega)
noncomputable def tbaSpec : LSpec := fun la lh => match la, lh with
  | [.ptr z1 z2 z3, .ptr z4 z5 z6], [(z7, .cells z8 [.func (.func z9) [.ptr z10 z11 z12] [], .nils, .sym .u64 m0, .sym .i64 at0, .sym .i64 fi0, .sym .i64 al0]), (z13, .cells z14 (.map z15 :: .sym .i64 st :: [.sym .u8 c0, .sym .u8 k0, .sym .i64 a0, .sym .i64 f0, .sym .u64 w0, .sym .u64 i0, .symb d0])), (z16, .map z17 M)] =>
    match Nat.beq z1 1 && (Nat.beq z2 0 && (Nat.beq z3 0 && (Nat.beq z4 2 && (Nat.beq z5 0 && (Nat.beq z6 0 && (Nat.beq z7 1 && (Nat.beq z8 6 && (Nat.beq z9 76 && (Nat.beq z10 1 && (Nat.beq z11 0 && (Nat.beq z12 0 && (Nat.beq z13 2 && (Nat.beq z14 9 && (Nat.beq z15 3 && (Nat.beq z16 3 && (Nat.beq z17 128)))))))))))))))) with
    | true => some (tbaR M m0 at0 fi0 al0 st c0 k0 a0 f0 w0 i0 d0)
    | false => none
  | _, _ => none
theorem tbaSpec_ok (la : List AV) (lh : List (Nat × AO)) (R : LR) (h : tbaSpec la lh = some R) : LocOk Try.prog 33 la lh R := by
  unfold tbaSpec at h
  split at h
  · rename_i z1 z2 z3 z4 z5 z6 z7 z8 z9 z10 z11 z12 m0 at0 fi0 al0 z13 z14 z15 st c0 k0 a0 f0 w0 i0 d0 z16 z17 M
    split at h
    · rename_i hb
      simp only [Bool.and_eq_true] at hb
      obtain ⟨e1, e2, e3, e4, e5, e6, e7, e8, e9, e10, e11, e12, e13, e14, e15, e16, e17⟩ := hb
      have e1 := Nat.eq_of_beq_eq_true e1; subst e1
      have e2 := Nat.eq_of_beq_eq_true e2; subst e2
      have e3 := Nat.eq_of_beq_eq_true e3; subst e3
      have e4 := Nat.eq_of_beq_eq_true e4; subst e4
      have e5 := Nat.eq_of_beq_eq_true e5; subst e5
      have e6 := Nat.eq_of_beq_eq_true e6; subst e6
      have e7 := Nat.eq_of_beq_eq_true e7; subst e7
      have e8 := Nat.eq_of_beq_eq_true e8; subst e8
      have e9 := Nat.eq_of_beq_eq_true e9; subst e9
      have e10 := Nat.eq_of_beq_eq_true e10; subst e10
      have e11 := Nat.eq_of_beq_eq_true e11; subst e11
      have e12 := Nat.eq_of_beq_eq_true e12; subst e12
      have e13 := Nat.eq_of_beq_eq_true e13; subst e13
      have e14 := Nat.eq_of_beq_eq_true e14; subst e14
      have e15 := Nat.eq_of_beq_eq_true e15; subst e15
      have e16 := Nat.eq_of_beq_eq_true e16; subst e16
      have e17 := Nat.eq_of_beq_eq_true e17; subst e17
      cases h
      exact tba_loc M m0 at0 fi0 al0 st c0 k0 a0 f0 w0 i0 d0
    · cases h
  · cases h

theorem tbb_1 (M : List Int → Option Int) (m0 at0 fi0 al0 st c0 k0 a0 f0 w0 i0 : Int) (d0 : Bool) : callB EMo3 2000 33 [AV.ptr 1 0 0, AV.ptr 2 0 0] (tbbH M m0 at0 fi0 al0 st c0 k0 a0 f0 w0 i0 d0) (tbbR M m0 at0 fi0 al0 st c0 k0 a0 f0 w0 i0 d0) [(4, Src.nm 4)] [Hint.a AV.nilf, Hint.b true] =
 some ([(0 : Nat) = 0,
 (0 : Nat) = 0,
 some 0 = some 0,
 m0 = m0,
 at0 = at0,
 fi0 = fi0,
 IntKind.i64.wrap (IntKind.i64.wrap (if 4 < mget M (key 5 0 0) then 4 else mget M (key 5 0 0)) * 4) = 0,
 false = false,
 (0 : Nat) ≤ (0 : Nat),
 (tF0 = fun x x_1 => AV.top) ∧ plainSh (List.map kindOf (ofVal (Value.agg #[Value.int IntKind.u64 0, Value.int IntKind.u64 0, Value.int IntKind.u64 0, Value.int IntKind.u64 0, Value.int IntKind.u64 0, Value.int IntKind.u64 0, Value.int IntKind.u64 0, Value.int IntKind.u64 0, Value.int IntKind.u64 0, Value.int IntKind.u64 0])).cells) = true ∨ ∀ (i : Nat), i < 0 → rowOb (List.map kindOf (ofVal (Value.agg #[Value.int IntKind.u64 0, Value.int IntKind.u64 0, Value.int IntKind.u64 0, Value.int IntKind.u64 0, Value.int IntKind.u64 0, Value.int IntKind.u64 0, Value.int IntKind.u64 0, Value.int IntKind.u64 0, Value.int IntKind.u64 0, Value.int IntKind.u64 0])).cells) 0 (fun x => AV.top) (tF0 i),
 IntKind.i64.wrap (st + 1) = IntKind.i64.wrap (st + 1),
 (1 : Int) = 1,
 (5 : Int) = 5,
 (0 : Int) = 0,
 (0 : Int) = 0,
 mget M (key 5 0 0) = mget M (key 5 0 0),
 mget M (key 5 0 0) = mget M (key 5 0 0),
 false = false,
 ∀ (k : List Int), M k = M k,
 (IntKind.i64.wrap (IntKind.i64.wrap (if 4 < mget M (key 5 0 0) then 4 else mget M (key 5 0 0)) * 4) == 0) = true,
 IntKind.i64.wrap (IntKind.i64.wrap (if 4 < mget M (key 5 0 0) then 4 else mget M (key 5 0 0)) * 4) = 0,
 IntKind.i64.wrap (IntKind.i64.wrap (if 4 < mget M (key 5 0 0) then 4 else mget M (key 5 0 0)) * 4) = 0]) := by kernel_rfl
theorem tbb_loc (M : List Int → Option Int) (m0 at0 fi0 al0 st c0 k0 a0 f0 w0 i0 : Int) (d0 : Bool) : LocOk Try.prog 33 [.ptr 1 0 0, .ptr 2 0 0] (tbbH M m0 at0 fi0 al0 st c0 k0 a0 f0 w0 i0 d0) (tbbR M m0 at0 fi0 al0 st c0 k0 a0 f0 w0 i0 d0) := by
  refine loc_of_call EMo3_ok (fun hp => ?_)
  have h0 : 0 ≤ mget M (key 5 0 0) := hp _ (List.mem_cons_self ..)
  have hn : tbN M = 0 := hp _ (List.mem_cons_of_mem _ (List.mem_cons_self ..))
  clear hp
  obtain ⟨e1, e2, e3⟩ := tb_w h0
  obtain ⟨n, hN⟩ : ∃ n : Nat, (n : Int) = tbN M := ⟨(tbN M).toNat, by omega⟩
  refine ⟨2000, _, _, _, tbb_1 .., (ob_cons rfl (ob_cons rfl (ob_cons rfl (ob_cons rfl (ob_cons rfl (ob_cons rfl (ob_cons ?_ (ob_cons rfl (ob_cons (Nat.le_refl _) (ob_cons ?_ (ob_cons rfl (ob_cons rfl (ob_cons rfl (ob_cons rfl (ob_cons rfl (ob_cons rfl (ob_cons rfl (ob_cons rfl (ob_cons (fun _ => rfl) (ob_cons ?_ (ob_cons ?_ (ob_cons ?_ ob_nil))))))))))))))))))))))⟩
  ·
    first | exact e1 | exact congrArg some (by omega) | (exact .inr (fun _ _ => ⟨rfl, rfl, rfl, rfl, rfl, rfl, rfl, rfl, rfl, rfl, trivial⟩)) | (rw [e1]; simp; omega) | (simp [e1, hn]; done) | exact ew | exact eN | exact eT | exact eZ | exact hrw | exact hmk | exact rfl | omega | exact wrap_nat64 _ (by simp; omega) (by simp; omega)
  ·
    first | exact e1 | exact congrArg some (by omega) | (exact .inr (fun _ _ => ⟨rfl, rfl, rfl, rfl, rfl, rfl, rfl, rfl, rfl, rfl, trivial⟩)) | (rw [e1]; simp; omega) | (simp [e1, hn]; done) | exact ew | exact eN | exact eT | exact eZ | exact hrw | exact hmk | exact rfl | omega | exact .inl ⟨rfl, rfl⟩
  ·
    first | exact e1 | exact congrArg some (by omega) | (exact .inr (fun _ _ => ⟨rfl, rfl, rfl, rfl, rfl, rfl, rfl, rfl, rfl, rfl, trivial⟩)) | (rw [e1]; simp; omega) | (simp [e1, hn]; done) | exact ew | exact eN | exact eT | exact eZ | exact hrw | exact hmk | exact rfl | omega | (apply Nat.ble_eq_true_of_le; omega) | (simp [Nat.blt_eq]; omega)
  ·
    first | exact e1 | exact congrArg some (by omega) | (exact .inr (fun _ _ => ⟨rfl, rfl, rfl, rfl, rfl, rfl, rfl, rfl, rfl, rfl, trivial⟩)) | (rw [e1]; simp; omega) | (simp [e1, hn]; done) | exact ew | exact eN | exact eT | exact eZ | exact hrw | exact hmk | exact rfl | omega | exact wrap_nat64 _ (by simp; omega) (by simp; omega)
  ·
    first | exact e1 | exact congrArg some (by omega) | (exact .inr (fun _ _ => ⟨rfl, rfl, rfl, rfl, rfl, rfl, rfl, rfl, rfl, rfl, trivial⟩)) | (rw [e1]; simp; omega) | (simp [e1, hn]; done) | exact ew | exact eN | exact eT | exact eZ | exact hrw | exact hmk | exact rfl | omega | exact wrap_nat64 _ (by simp; omega) (by simp; omega)
noncomputable def tbbSpec : LSpec := fun la lh => match la, lh with
  | [.ptr z1 z2 z3, .ptr z4 z5 z6], [(z7, .cells z8 [.func (.func z9) [.ptr z10 z11 z12] [], .nils, .sym .u64 m0, .sym .i64 at0, .sym .i64 fi0, .sym .i64 al0]), (z13, .cells z14 (.map z15 :: .sym .i64 st :: [.sym .u8 c0, .sym .u8 k0, .sym .i64 a0, .sym .i64 f0, .sym .u64 w0, .sym .u64 i0, .symb d0])), (z16, .map z17 M)] =>
    match Nat.beq z1 1 && (Nat.beq z2 0 && (Nat.beq z3 0 && (Nat.beq z4 2 && (Nat.beq z5 0 && (Nat.beq z6 0 && (Nat.beq z7 1 && (Nat.beq z8 6 && (Nat.beq z9 76 && (Nat.beq z10 1 && (Nat.beq z11 0 && (Nat.beq z12 0 && (Nat.beq z13 2 && (Nat.beq z14 9 && (Nat.beq z15 3 && (Nat.beq z16 3 && (Nat.beq z17 128)))))))))))))))) with
    | true => some (tbbR M m0 at0 fi0 al0 st c0 k0 a0 f0 w0 i0 d0)
    | false => none
  | _, _ => none
theorem tbbSpec_ok (la : List AV) (lh : List (Nat × AO)) (R : LR) (h : tbbSpec la lh = some R) : LocOk Try.prog 33 la lh R := by
  unfold tbbSpec at h
  split at h
  · rename_i z1 z2 z3 z4 z5 z6 z7 z8 z9 z10 z11 z12 m0 at0 fi0 al0 z13 z14 z15 st c0 k0 a0 f0 w0 i0 d0 z16 z17 M
    split at h
    · rename_i hb
      simp only [Bool.and_eq_true] at hb
      obtain ⟨e1, e2, e3, e4, e5, e6, e7, e8, e9, e10, e11, e12, e13, e14, e15, e16, e17⟩ := hb
      have e1 := Nat.eq_of_beq_eq_true e1; subst e1
      have e2 := Nat.eq_of_beq_eq_true e2; subst e2
      have e3 := Nat.eq_of_beq_eq_true e3; subst e3
      have e4 := Nat.eq_of_beq_eq_true e4; subst e4
      have e5 := Nat.eq_of_beq_eq_true e5; subst e5
      have e6 := Nat.eq_of_beq_eq_true e6; subst e6
      have e7 := Nat.eq_of_beq_eq_true e7; subst e7
      have e8 := Nat.eq_of_beq_eq_true e8; subst e8
      have e9 := Nat.eq_of_beq_eq_true e9; subst e9
      have e10 := Nat.eq_of_beq_eq_true e10; subst e10
      have e11 := Nat.eq_of_beq_eq_true e11; subst e11
      have e12 := Nat.eq_of_beq_eq_true e12; subst e12
      have e13 := Nat.eq_of_beq_eq_true e13; subst e13
      have e14 := Nat.eq_of_beq_eq_true e14; subst e14
      have e15 := Nat.eq_of_beq_eq_true e15; subst e15
      have e16 := Nat.eq_of_beq_eq_true e16; subst e16
      have e17 := Nat.eq_of_beq_eq_true e17; subst e17
      cases h
      exact tbb_loc M m0 at0 fi0 al0 st c0 k0 a0 f0 w0 i0 d0
    · cases h
  · cases h

end Go.Proofs.Ytmlfmmnnbdlabaa
