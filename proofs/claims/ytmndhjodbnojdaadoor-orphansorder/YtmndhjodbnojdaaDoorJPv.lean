/-
  taken: as an environment has it.
-/
import Derived.Test.YtmndhjodbnojdaaDoorJPu
set_option linter.unusedSimpArgs false
set_option linter.unusedVariables false
namespace Go.Proofs.YtmndhjodbnojdaaDoor
open Go.Ev
theorem tk0_1 (S : MS) : callB ETj 2000 42 [AV.ptr 1 0 0, AV.int IntKind.i64 1] (tk0H S (tabF tab)) (tk0R S (tabF tab)) [] [Hint.b true] =
 some ([((0 : Int) == (0 : Int)) = true,
 true = true,
 (1 : Nat) ≤ (1 : Nat),
 tabF tab = tabF tab ∧ plainSh (List.map kindOfV tab) = true ∨ ∀ (i : Nat), i < 1 → rowOb (List.map kindOfV tab) 0 (tabF tab i) (tabF tab i),
 IntKind.i64.wrap (S.st + 1) = (mLoad S 4 0 0).st,
 (1 : Int) = 1,
 (4 : Int) = 4,
 (0 : Int) = 0,
 (0 : Int) = 0,
 mget S.M (key 4 0 0) = (mLoad S 4 0 0).L.w,
 mget S.M (key 4 0 0) = (mLoad S 4 0 0).L.i,
 false = (mLoad S 4 0 0).L.d,
 ∀ (k : List Int), S.M k = (mLoad S 4 0 0).M k,
 decide (hSlot (mget S.M (key 4 0 0)) < 0) = true,
 TabIs tab (tabF tab),
 0 ≤ mget S.M (key 4 0 0),
 mget S.M (key 4 0 0) < 18446744073709551616]) := by kernel_rfl
theorem tk0_loc (S : MS) (FT : Nat → Nat → AV) : LocOk Tryd.prog 42 [.ptr 1 0 0, .int .i64 1] (tk0H S FT) (tk0R S FT) := by
  refine loc_of_call ETj_ok (fun hp => ?_)
  have hFT : FT = tabF tab := hp _ (List.mem_cons_self ..)
  have hm : TkNone S := hp _ (List.mem_cons_of_mem _ (List.mem_cons_self ..))
  clear hp
  subst hFT
  refine ⟨2000, _, _, _, tk0_1 .., (ob_cons ?_ (ob_cons rfl (ob_cons (Nat.le_refl _) (ob_cons (.inl ⟨rfl, rfl⟩) (ob_cons ?_ (ob_cons rfl (ob_cons rfl (ob_cons rfl (ob_cons rfl (ob_cons ?_ (ob_cons ?_ (ob_cons ?_ (ob_cons ?_ (ob_cons ?_ (ob_cons (tabIs_self _) (ob_cons ?_ (ob_cons ?_ ob_nil)))))))))))))))))⟩
  ·
    first | exact decide_eq_true hm.c | exact (hm.u _).1 | exact (hm.u _).2 | exact tabIs_self _ | exact rfl | exact fun _ => rfl | (simp; done) | (apply Nat.ble_eq_true_of_le; omega) | (simp [Nat.blt_eq]; omega)
  ·
    first | exact decide_eq_true hm.c | exact (hm.u _).1 | exact (hm.u _).2 | exact tabIs_self _ | exact rfl | exact fun _ => rfl | (simp; done) | exact wrap_nat64 _ (by simp; omega) (by simp; omega)
  ·
    first | exact decide_eq_true hm.c | exact (hm.u _).1 | exact (hm.u _).2 | exact tabIs_self _ | exact rfl | exact fun _ => rfl | (simp; done) | rfl
  ·
    first | exact decide_eq_true hm.c | exact (hm.u _).1 | exact (hm.u _).2 | exact tabIs_self _ | exact rfl | exact fun _ => rfl | (simp; done) | rfl
  ·
    first | exact decide_eq_true hm.c | exact (hm.u _).1 | exact (hm.u _).2 | exact tabIs_self _ | exact rfl | exact fun _ => rfl | (simp; done) | rfl
  ·
    first | exact decide_eq_true hm.c | exact (hm.u _).1 | exact (hm.u _).2 | exact tabIs_self _ | exact rfl | exact fun _ => rfl | (simp; done) | exact fun _ => rfl
  ·
    first | exact decide_eq_true hm.c | exact (hm.u _).1 | exact (hm.u _).2 | exact tabIs_self _ | exact rfl | exact fun _ => rfl | (simp; done) | (apply Nat.ble_eq_true_of_le; omega) | (simp [Nat.blt_eq]; omega)
  ·
    first | exact decide_eq_true hm.c | exact (hm.u _).1 | exact (hm.u _).2 | exact tabIs_self _ | exact rfl | exact fun _ => rfl | (simp; done) | exact Nat.le_refl _ | omega
  ·
    first | exact decide_eq_true hm.c | exact (hm.u _).1 | exact (hm.u _).2 | exact tabIs_self _ | exact rfl | exact fun _ => rfl | (simp; done) | omega
noncomputable def tkcSpec : LSpec := fun la lh => match la, lh with
  | [.ptr z1 z2 z3, .sym .i64 t], [(zt, .arr nt sht rot lent FT), (z4, .cells z5 [.map z6, .sym .i64 st, .sym .u8 c0, .sym .u8 k0, .sym .i64 a0, .sym .i64 f0, .sym .u64 w0, .sym .u64 i0, .symb d0]), (z7, .map z8 M)] =>
    match (Nat.beq zt (gnm 0) && (Nat.beq nt tab.length && (shBeq sht (tab.map kindOfV) && (rot && Nat.beq lent 1)))) && (Nat.beq z1 1 && (Nat.beq z2 0 && (Nat.beq z3 0 && (Nat.beq z4 1 && (Nat.beq z5 9 && (Nat.beq z6 2 && (Nat.beq z7 2 && (Nat.beq z8 115)))))))) with
    | true => some (tkcR t ⟨M, st, ⟨c0, k0, a0, f0, w0, i0, d0⟩⟩ ((t - 2) / 5).toNat FT)
    | false => none
  | _, _ => none
theorem tkcSpec_ok (la : List AV) (lh : List (Nat × AO)) (R : LR) (h : tkcSpec la lh = some R) : LocOk Tryd.prog 42 la lh R := by
  unfold tkcSpec at h
  split at h
  · rename_i z1 z2 z3 t zt nt sht rot lent FT z4 z5 z6 st c0 k0 a0 f0 w0 i0 d0 z7 z8 M
    split at h
    · rename_i hb
      simp only [Bool.and_eq_true] at hb
      obtain ⟨⟨t1, t2, t3, t4, t5⟩, e1, e2, e3, e4, e5, e6, e7, e8⟩ := hb
      have t1 := Nat.eq_of_beq_eq_true t1; subst t1
      have t2 := Nat.eq_of_beq_eq_true t2; subst t2
      have t3 := shBeq_eq t3; subst t3
      subst t4
      have t5 := Nat.eq_of_beq_eq_true t5; subst t5
      have e1 := Nat.eq_of_beq_eq_true e1; subst e1
      have e2 := Nat.eq_of_beq_eq_true e2; subst e2
      have e3 := Nat.eq_of_beq_eq_true e3; subst e3
      have e4 := Nat.eq_of_beq_eq_true e4; subst e4
      have e5 := Nat.eq_of_beq_eq_true e5; subst e5
      have e6 := Nat.eq_of_beq_eq_true e6; subst e6
      have e7 := Nat.eq_of_beq_eq_true e7; subst e7
      have e8 := Nat.eq_of_beq_eq_true e8; subst e8
      cases h
      exact tkc_loc t ⟨M, st, ⟨c0, k0, a0, f0, w0, i0, d0⟩⟩ ((t - 2) / 5).toNat FT
    · cases h
  · cases h
noncomputable def tkjR (t : Int) (S : MS) (FT : Nat → Nat → AV) : LR := ⟨2, .tup [.nils, .symb true], [(gnm 0, .arr tab.length (tab.map kindOfV) true 1 FT), (1, .cells 9 (.map 2 :: lsL (mLoad S 4 0 0).st (mLoad S 4 0 0).L)), (2, .map 115 (mLoad S 4 0 0).M)], 0, [1, 2], [FT = tabF tab, TkNone S, t = 1]⟩
theorem tkj_loc (t : Int) (S : MS) (FT : Nat → Nat → AV) : LocOk Tryd.prog 42 [.ptr 1 0 0, .sym .i64 t] [(gnm 0, .arr tab.length (tab.map kindOfV) true 1 FT), (1, .cells 9 (.map 2 :: lsL S.st S.L)), (2, .map 115 S.M)] (tkjR t S FT) := by
  intro ρ w hp hr hf hg xs hx
  have hFT : FT = tabF tab := hp _ (List.mem_cons_self ..)
  have hm : TkNone S := hp _ (List.mem_cons_of_mem _ (List.mem_cons_self ..))
  have ht : t = 1 := hp _ (List.mem_cons_of_mem _ (List.mem_cons_of_mem _ (List.mem_cons_self ..)))
  subst ht
  exact loc_symR (tk0_loc S FT) ρ w (ob_cons hFT (ob_cons hm ob_nil)) hr hf hg xs hx
noncomputable def tkjSpec : LSpec := fun la lh => match la, lh with
  | [.ptr z1 z2 z3, .sym .i64 t], [(zt, .arr nt sht rot lent FT), (z4, .cells z5 [.map z6, .sym .i64 st, .sym .u8 c0, .sym .u8 k0, .sym .i64 a0, .sym .i64 f0, .sym .u64 w0, .sym .u64 i0, .symb d0]), (z7, .map z8 M)] =>
    match (Nat.beq zt (gnm 0) && (Nat.beq nt tab.length && (shBeq sht (tab.map kindOfV) && (rot && Nat.beq lent 1)))) && (Nat.beq z1 1 && (Nat.beq z2 0 && (Nat.beq z3 0 && (Nat.beq z4 1 && (Nat.beq z5 9 && (Nat.beq z6 2 && (Nat.beq z7 2 && (Nat.beq z8 115)))))))) with
    | true => some (tkjR t ⟨M, st, ⟨c0, k0, a0, f0, w0, i0, d0⟩⟩ FT)
    | false => none
  | _, _ => none
theorem tkjSpec_ok (la : List AV) (lh : List (Nat × AO)) (R : LR) (h : tkjSpec la lh = some R) : LocOk Tryd.prog 42 la lh R := by
  unfold tkjSpec at h
  split at h
  · rename_i z1 z2 z3 t zt nt sht rot lent FT z4 z5 z6 st c0 k0 a0 f0 w0 i0 d0 z7 z8 M
    split at h
    · rename_i hb
      simp only [Bool.and_eq_true] at hb
      obtain ⟨⟨t1, t2, t3, t4, t5⟩, e1, e2, e3, e4, e5, e6, e7, e8⟩ := hb
      have t1 := Nat.eq_of_beq_eq_true t1; subst t1
      have t2 := Nat.eq_of_beq_eq_true t2; subst t2
      have t3 := shBeq_eq t3; subst t3
      subst t4
      have t5 := Nat.eq_of_beq_eq_true t5; subst t5
      have e1 := Nat.eq_of_beq_eq_true e1; subst e1
      have e2 := Nat.eq_of_beq_eq_true e2; subst e2
      have e3 := Nat.eq_of_beq_eq_true e3; subst e3
      have e4 := Nat.eq_of_beq_eq_true e4; subst e4
      have e5 := Nat.eq_of_beq_eq_true e5; subst e5
      have e6 := Nat.eq_of_beq_eq_true e6; subst e6
      have e7 := Nat.eq_of_beq_eq_true e7; subst e7
      have e8 := Nat.eq_of_beq_eq_true e8; subst e8
      cases h
      exact tkj_loc t ⟨M, st, ⟨c0, k0, a0, f0, w0, i0, d0⟩⟩ FT
    · cases h
  · cases h
/-- taken, by a hint: .n 0: all; .n 1: there is nothing. -/
noncomputable def takSP : SP := altN tkcSpec tkjSpec
theorem takSP_ok : SPOk Tryd.prog 42 takSP := altN_ok tkcSpec_ok tkjSpec_ok

end Go.Proofs.YtmndhjodbnojdaaDoor
