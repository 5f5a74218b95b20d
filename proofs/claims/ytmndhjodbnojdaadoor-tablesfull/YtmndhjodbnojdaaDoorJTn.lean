/-
  Steps of a Join, of a Leave: contracts.
-/
import Derived.Test.YtmndhjodbnojdaaDoorJTnDef
set_option linter.unusedSimpArgs false
set_option linter.unusedVariables false
namespace Go.Proofs.YtmndhjodbnojdaaDoor
open Go.Ev
theorem jn_loc (ln : Int) (bl : Int) (wd : Int) (e : Int) (ow : Int) (bs : Int) (kk : Int) (th : Int) (S : MS) (FT : Nat → Nat → AV) : LocOk Tryd.prog 73 [.ptr 1 0 0, .ptr 2 0 0] (jnH ln bl wd e ow bs kk th S FT) (jnR ln bl wd e ow bs kk th S FT) := by
  unfold jnR
  rw [jnX_eq, jnY_eq]
  intro ρ w hp hr hf hg xs hx
  have hFT : FT = tabF tab := hp _ (List.mem_cons_self ..)
  have hu : U64 S := hp _ (List.mem_cons_of_mem _ (List.mem_cons_self ..))
  have hl : Ln7 ln := hp _ (List.mem_cons_of_mem _ (List.mem_cons_of_mem _ (List.mem_cons_self ..)))
  have hh : R64 wd := hp _ (List.mem_cons_of_mem _ (List.mem_cons_of_mem _ (List.mem_cons_of_mem _ (List.mem_cons_self ..))))
  clear hp
  rcases hl with rfl | rfl | rfl | rfl | rfl | rfl | rfl | rfl
  · exact loc_symR (jn0_loc bl wd e ow bs kk th S FT) ρ w (ob_cons hFT (ob_cons hu ob_nil)) hr hf hg xs hx
  · by_cases hs : IntKind.i64.wrap (tBs (mget S.M (key 5 0 0))) = 0
    · exact loc_symR (jn1a_loc bl wd e ow bs kk th S FT) ρ w (ob_cons hFT (ob_cons hu (ob_cons hs ob_nil))) hr hf hg xs hx
    · exact loc_symR (jn1b_loc bl wd e ow bs kk th S FT) ρ w (ob_cons hFT (ob_cons hu (ob_cons hs ob_nil))) hr hf hg xs hx
  · cases hc : bkC (mget S.M (key 7 bl 0)) with
    | true =>
      by_cases hb : IntKind.i64.wrap (bl + 1) = bs
      · exact loc_symR (jn2b_loc bl wd e ow bs kk th S FT) ρ w (ob_cons hFT (ob_cons hu (ob_cons hc (ob_cons hb ob_nil)))) hr hf hg xs hx
      · exact loc_symR (jn2c_loc bl wd e ow bs kk th S FT) ρ w (ob_cons hFT (ob_cons hu (ob_cons hc (ob_cons hb ob_nil)))) hr hf hg xs hx
    | false =>
      by_cases hn : bkN (mget S.M (key 7 bl 0)) < 4
      · exact loc_symR (jn2a_loc bl wd e ow bs kk th S FT) ρ w (ob_cons hFT (ob_cons hu (ob_cons hc (ob_cons hn ob_nil)))) hr hf hg xs hx
      · by_cases hb : IntKind.i64.wrap (bl + 1) = bs
        · exact loc_symR (jn2d_loc bl wd e ow bs kk th S FT) ρ w (ob_cons hFT (ob_cons hu (ob_cons hc (ob_cons hn (ob_cons hb ob_nil))))) hr hf hg xs hx
        · exact loc_symR (jn2e_loc bl wd e ow bs kk th S FT) ρ w (ob_cons hFT (ob_cons hu (ob_cons hc (ob_cons hn (ob_cons hb ob_nil))))) hr hf hg xs hx
  · by_cases hs : casD S.M 7 bl 0 wd = true
    · exact loc_symR (jn3a_loc bl wd e ow bs kk th S FT) ρ w (ob_cons hFT (ob_cons hu (ob_cons hh (ob_cons hs ob_nil)))) hr hf hg xs hx
    · exact loc_symR (jn3b_loc bl wd e ow bs kk th S FT) ρ w (ob_cons hFT (ob_cons hu (ob_cons hh (ob_cons hs ob_nil)))) hr hf hg xs hx
  · by_cases hs : casD S.M 8 (IntKind.i64.wrap (IntKind.i64.wrap (bl * 4) + kk)) 0 0 = true
    · exact loc_symR (jn4a_loc bl wd e ow bs kk th S FT) ρ w (ob_cons hFT (ob_cons hu (ob_cons hs ob_nil))) hr hf hg xs hx
    · by_cases hb : IntKind.i64.wrap (kk + 1) = 4
      · exact loc_symR (jn4b_loc bl wd e ow bs kk th S FT) ρ w (ob_cons hFT (ob_cons hu (ob_cons hs (ob_cons hb ob_nil)))) hr hf hg xs hx
      · exact loc_symR (jn4c_loc bl wd e ow bs kk th S FT) ρ w (ob_cons hFT (ob_cons hu (ob_cons hs (ob_cons hb ob_nil)))) hr hf hg xs hx
  · by_cases hs : IntKind.i64.wrap (kk + 1) = 10
    · exact loc_symR (jn5a_loc bl wd e ow bs kk th S FT) ρ w (ob_cons hFT (ob_cons hu (ob_cons hs ob_nil))) hr hf hg xs hx
    · exact loc_symR (jn5b_loc bl wd e ow bs kk th S FT) ρ w (ob_cons hFT (ob_cons hu (ob_cons hs ob_nil))) hr hf hg xs hx
  · exact loc_symR (jn6_loc bl wd e ow bs kk th S FT) ρ w (ob_cons hFT (ob_cons hu ob_nil)) hr hf hg xs hx
  · by_cases hs : casD S.M 7 bl 0 wd = true
    · exact loc_symR (jn7a_loc bl wd e ow bs kk th S FT) ρ w (ob_cons hFT (ob_cons hu (ob_cons hh (ob_cons hs ob_nil)))) hr hf hg xs hx
    · exact loc_symR (jn7b_loc bl wd e ow bs kk th S FT) ρ w (ob_cons hFT (ob_cons hu (ob_cons hh (ob_cons hs ob_nil)))) hr hf hg xs hx
noncomputable def jnSpec : LSpec := fun la lh => match la, lh with
  | [.ptr z1 z2 z3, .ptr z4 z5 z6], [(zt, .arr nt sht rot lent FT), (z7, .cells z8 [.sym .i64 ln, .sym .i64 bl, .sym .u64 wd, .sym .i64 e, .sym .u64 ow, .sym .i64 bs, .sym .i64 kk, .sym .i64 th]), (z9, .cells z10 [.map z11, .sym .i64 st, .sym .u8 c0, .sym .u8 k0, .sym .i64 a0, .sym .i64 f0, .sym .u64 w0, .sym .u64 i0, .symb d0]), (z12, .map z13 M)] =>
    match (Nat.beq zt (gnm 0) && (Nat.beq nt tab.length && (shBeq sht (tab.map kindOfV) && (rot && Nat.beq lent 1)))) && (Nat.beq z1 1 && (Nat.beq z2 0 && (Nat.beq z3 0 && (Nat.beq z4 2 && (Nat.beq z5 0 && (Nat.beq z6 0 && (Nat.beq z7 1 && (Nat.beq z8 8 && (Nat.beq z9 2 && (Nat.beq z10 9 && (Nat.beq z11 3 && (Nat.beq z12 3 && (Nat.beq z13 115))))))))))))) with
    | true => some (jnR ln bl wd e ow bs kk th ⟨M, st, ⟨c0, k0, a0, f0, w0, i0, d0⟩⟩ FT)
    | false => none
  | _, _ => none
theorem jnSpec_ok (la : List AV) (lh : List (Nat × AO)) (R : LR) (h : jnSpec la lh = some R) : LocOk Tryd.prog 73 la lh R := by
  unfold jnSpec at h
  split at h
  · rename_i z1 z2 z3 z4 z5 z6 zt nt sht rot lent FT z7 z8 ln bl wd e ow bs kk th z9 z10 z11 st c0 k0 a0 f0 w0 i0 d0 z12 z13 M
    split at h
    · rename_i hb
      simp only [Bool.and_eq_true] at hb
      obtain ⟨⟨t1, t2, t3, t4, t5⟩, e1, e2, e3, e4, e5, e6, e7, e8, e9, e10, e11, e12, e13⟩ := hb
      have t1 := Nat.eq_of_beq_eq_true t1; subst t1
      have t2 := Nat.eq_of_beq_eq_true t2; subst t2
      have t3 := shBeq_eq t3; subst t3
      subst t4
      have t5 := Nat.eq_of_beq_eq_true t5; subst t5
      have e1 := Nat.eq_of_beq_eq_true e1; subst e1
      have e2 := Nat.eq_of_beq_eq_true e2; subst e2
      have e3 := Nat.eq_of_beq_eq_true e3; subst e3
      have e4 := Nat.eq_of_beq_eq_true e4; subst e4
      have e5 := Nat.eq_of_beq_eq_true e5; subst e5
      have e6 := Nat.eq_of_beq_eq_true e6; subst e6
      have e7 := Nat.eq_of_beq_eq_true e7; subst e7
      have e8 := Nat.eq_of_beq_eq_true e8; subst e8
      have e9 := Nat.eq_of_beq_eq_true e9; subst e9
      have e10 := Nat.eq_of_beq_eq_true e10; subst e10
      have e11 := Nat.eq_of_beq_eq_true e11; subst e11
      have e12 := Nat.eq_of_beq_eq_true e12; subst e12
      have e13 := Nat.eq_of_beq_eq_true e13; subst e13
      cases h
      exact jn_loc ln bl wd e ow bs kk th ⟨M, st, ⟨c0, k0, a0, f0, w0, i0, d0⟩⟩ FT
    · cases h
  · cases h

theorem lv_loc (ln : Int) (bl : Int) (wd : Int) (e : Int) (th : Int) (S : MS) (FT : Nat → Nat → AV) : LocOk Tryd.prog 76 [.ptr 1 0 0, .ptr 2 0 0] (lvH ln bl wd e th S FT) (lvR ln bl wd e th S FT) := by
  unfold lvR
  rw [lvX_eq, lvY_eq]
  intro ρ w hp hr hf hg xs hx
  have hFT : FT = tabF tab := hp _ (List.mem_cons_self ..)
  have hu : U64 S := hp _ (List.mem_cons_of_mem _ (List.mem_cons_self ..))
  have hl : Ln6 ln := hp _ (List.mem_cons_of_mem _ (List.mem_cons_of_mem _ (List.mem_cons_self ..)))
  have hh : R64 wd := hp _ (List.mem_cons_of_mem _ (List.mem_cons_of_mem _ (List.mem_cons_of_mem _ (List.mem_cons_self ..))))
  clear hp
  rcases hl with rfl | rfl | rfl | rfl | rfl | rfl | rfl
  · exact loc_symR (lv0_loc bl wd e th S FT) ρ w (ob_cons hFT (ob_cons hu ob_nil)) hr hf hg xs hx
  · by_cases hs : mget S.M (key 8 th 0) = 0
    · exact loc_symR (lv1a_loc bl wd e th S FT) ρ w (ob_cons hFT (ob_cons hu (ob_cons hs ob_nil))) hr hf hg xs hx
    · exact loc_symR (lv1b_loc bl wd e th S FT) ρ w (ob_cons hFT (ob_cons hu (ob_cons hs ob_nil))) hr hf hg xs hx
  · by_cases hs : mget S.M (key 8 th 1) = 0
    · exact loc_symR (lv2a_loc bl wd e th S FT) ρ w (ob_cons hFT (ob_cons hu (ob_cons hs ob_nil))) hr hf hg xs hx
    · exact loc_symR (lv2b_loc bl wd e th S FT) ρ w (ob_cons hFT (ob_cons hu (ob_cons hs ob_nil))) hr hf hg xs hx
  · exact loc_symR (lv3_loc bl wd e th S FT) ρ w (ob_cons hFT (ob_cons hu ob_nil)) hr hf hg xs hx
  · exact loc_symR (lv4_loc bl wd e th S FT) ρ w (ob_cons hFT (ob_cons hu ob_nil)) hr hf hg xs hx
  · exact loc_symR (lv5_loc bl wd e th S FT) ρ w (ob_cons hFT (ob_cons hu ob_nil)) hr hf hg xs hx
  · by_cases hs : casD S.M 7 bl 0 wd = true
    · exact loc_symR (lv6a_loc bl wd e th S FT) ρ w (ob_cons hFT (ob_cons hu (ob_cons hh (ob_cons hs ob_nil)))) hr hf hg xs hx
    · exact loc_symR (lv6b_loc bl wd e th S FT) ρ w (ob_cons hFT (ob_cons hu (ob_cons hh (ob_cons hs ob_nil)))) hr hf hg xs hx
noncomputable def lvSpec : LSpec := fun la lh => match la, lh with
  | [.ptr z1 z2 z3, .ptr z4 z5 z6], [(zt, .arr nt sht rot lent FT), (z7, .cells z8 [.sym .i64 ln, .sym .i64 bl, .sym .u64 wd, .sym .i64 e, .sym .i64 th]), (z9, .cells z10 [.map z11, .sym .i64 st, .sym .u8 c0, .sym .u8 k0, .sym .i64 a0, .sym .i64 f0, .sym .u64 w0, .sym .u64 i0, .symb d0]), (z12, .map z13 M)] =>
    match (Nat.beq zt (gnm 0) && (Nat.beq nt tab.length && (shBeq sht (tab.map kindOfV) && (rot && Nat.beq lent 1)))) && (Nat.beq z1 1 && (Nat.beq z2 0 && (Nat.beq z3 0 && (Nat.beq z4 2 && (Nat.beq z5 0 && (Nat.beq z6 0 && (Nat.beq z7 1 && (Nat.beq z8 5 && (Nat.beq z9 2 && (Nat.beq z10 9 && (Nat.beq z11 3 && (Nat.beq z12 3 && (Nat.beq z13 115))))))))))))) with
    | true => some (lvR ln bl wd e th ⟨M, st, ⟨c0, k0, a0, f0, w0, i0, d0⟩⟩ FT)
    | false => none
  | _, _ => none
theorem lvSpec_ok (la : List AV) (lh : List (Nat × AO)) (R : LR) (h : lvSpec la lh = some R) : LocOk Tryd.prog 76 la lh R := by
  unfold lvSpec at h
  split at h
  · rename_i z1 z2 z3 z4 z5 z6 zt nt sht rot lent FT z7 z8 ln bl wd e th z9 z10 z11 st c0 k0 a0 f0 w0 i0 d0 z12 z13 M
    split at h
    · rename_i hb
      simp only [Bool.and_eq_true] at hb
      obtain ⟨⟨t1, t2, t3, t4, t5⟩, e1, e2, e3, e4, e5, e6, e7, e8, e9, e10, e11, e12, e13⟩ := hb
      have t1 := Nat.eq_of_beq_eq_true t1; subst t1
      have t2 := Nat.eq_of_beq_eq_true t2; subst t2
      have t3 := shBeq_eq t3; subst t3
      subst t4
      have t5 := Nat.eq_of_beq_eq_true t5; subst t5
      have e1 := Nat.eq_of_beq_eq_true e1; subst e1
      have e2 := Nat.eq_of_beq_eq_true e2; subst e2
      have e3 := Nat.eq_of_beq_eq_true e3; subst e3
      have e4 := Nat.eq_of_beq_eq_true e4; subst e4
      have e5 := Nat.eq_of_beq_eq_true e5; subst e5
      have e6 := Nat.eq_of_beq_eq_true e6; subst e6
      have e7 := Nat.eq_of_beq_eq_true e7; subst e7
      have e8 := Nat.eq_of_beq_eq_true e8; subst e8
      have e9 := Nat.eq_of_beq_eq_true e9; subst e9
      have e10 := Nat.eq_of_beq_eq_true e10; subst e10
      have e11 := Nat.eq_of_beq_eq_true e11; subst e11
      have e12 := Nat.eq_of_beq_eq_true e12; subst e12
      have e13 := Nat.eq_of_beq_eq_true e13; subst e13
      cases h
      exact lv_loc ln bl wd e th ⟨M, st, ⟨c0, k0, a0, f0, w0, i0, d0⟩⟩ FT
    · cases h
  · cases h

end Go.Proofs.YtmndhjodbnojdaaDoor
