/-
  Steps of a Pop, of a Push: contracts.
-/
import Derived.Test.YtljeiencnpnbkaaDoorEvHide
set_option linter.unusedSimpArgs false
set_option linter.unusedVariables false
namespace Go.Proofs.YtljeiencnpnbkaaDoor
open Go.Ev
theorem pop_loc (ln : Int) (h : Int) (nx : Int) (sl : Int) (ok : Bool) (S : MS) (FT : Nat → Nat → AV) : LocOk Tryd.prog 104 [.ptr 1 0 0, .ptr 2 0 0] (popH ln h nx sl ok S FT) (popR ln h nx sl ok S FT) := by
  unfold popR
  rw [popX_eq, popY_eq]
  intro ρ w hp hr hf hg xs hx
  have hFT : FT = tabF tab := hp _ (List.mem_cons_self ..)
  have hu : U64 S := hp _ (List.mem_cons_of_mem _ (List.mem_cons_self ..))
  have hl : Ln3 ln := hp _ (List.mem_cons_of_mem _ (List.mem_cons_of_mem _ (List.mem_cons_self ..)))
  have hh : R64 h := hp _ (List.mem_cons_of_mem _ (List.mem_cons_of_mem _ (List.mem_cons_of_mem _ (List.mem_cons_self ..))))
  clear hp
  rcases hl with rfl | rfl | rfl | rfl
  · exact loc_symR (pop0_loc h nx sl ok S FT) ρ w (ob_cons hFT (ob_cons hu ob_nil)) hr hf hg xs hx
  · by_cases hs : hSlot (mget S.M (key 0 0 0)) < 0
    · exact loc_symR (pop1a_loc h nx sl ok S FT) ρ w (ob_cons hFT (ob_cons hu (ob_cons hs ob_nil))) hr hf hg xs hx
    · exact loc_symR (pop1b_loc h nx sl ok S FT) ρ w (ob_cons hFT (ob_cons hu (ob_cons hs ob_nil))) hr hf hg xs hx
  · exact loc_symR (pop2_loc h nx sl ok S FT) ρ w (ob_cons hFT (ob_cons hu (ob_cons hh ob_nil))) hr hf hg xs hx
  · by_cases hs : casD S.M 0 0 0 h = true
    · exact loc_symR (pop3a_loc h nx sl ok S FT) ρ w (ob_cons hFT (ob_cons hu (ob_cons hh (ob_cons hs ob_nil)))) hr hf hg xs hx
    · exact loc_symR (pop3b_loc h nx sl ok S FT) ρ w (ob_cons hFT (ob_cons hu (ob_cons hh (ob_cons hs ob_nil)))) hr hf hg xs hx
noncomputable def popSpec : LSpec := fun la lh => match la, lh with
  | [.ptr z1 z2 z3, .ptr z4 z5 z6], [(zt, .arr nt sht rot lent FT), (z7, .cells z8 [.sym .i64 ln, .sym .u64 h, .sym .i64 nx, .sym .i64 sl, .symb ok]), (z9, .cells z10 [.map z11, .sym .i64 st, .sym .u8 c0, .sym .u8 k0, .sym .i64 a0, .sym .i64 f0, .sym .u64 w0, .sym .u64 i0, .symb d0]), (z12, .map z13 M)] =>
    match (Nat.beq zt (gnm 0) && (Nat.beq nt tab.length && (shBeq sht (tab.map kindOfV) && (rot && Nat.beq lent 1)))) && (Nat.beq z1 1 && (Nat.beq z2 0 && (Nat.beq z3 0 && (Nat.beq z4 2 && (Nat.beq z5 0 && (Nat.beq z6 0 && (Nat.beq z7 1 && (Nat.beq z8 5 && (Nat.beq z9 2 && (Nat.beq z10 9 && (Nat.beq z11 3 && (Nat.beq z12 3 && (Nat.beq z13 110))))))))))))) with
    | true => some (popR ln h nx sl ok ⟨M, st, ⟨c0, k0, a0, f0, w0, i0, d0⟩⟩ FT)
    | false => none
  | _, _ => none
theorem popSpec_ok (la : List AV) (lh : List (Nat × AO)) (R : LR) (h : popSpec la lh = some R) : LocOk Tryd.prog 104 la lh R := by
  unfold popSpec at h
  split at h
  · rename_i z1 z2 z3 z4 z5 z6 zt nt sht rot lent FT z7 z8 ln h nx sl ok z9 z10 z11 st c0 k0 a0 f0 w0 i0 d0 z12 z13 M
    split at h
    · rename_i hb
      simp only [Bool.and_eq_true] at hb
      obtain ⟨⟨t1, t2, t3, t4, t5⟩, e1, e2, e3, e4, e5, e6, e7, e8, e9, e10, e11, e12, e13⟩ := hb
      have t1 := Nat.eq_of_beq_eq_true t1; subst t1
      have t2 := Nat.eq_of_beq_eq_true t2; subst t2
      have t3 := shBeq_eq t3; subst t3
      subst t4
      have t5 := Nat.eq_of_beq_eq_true t5; subst t5
      have e1 := Nat.eq_of_beq_eq_true e1; subst e1
      have e2 := Nat.eq_of_beq_eq_true e2; subst e2
      have e3 := Nat.eq_of_beq_eq_true e3; subst e3
      have e4 := Nat.eq_of_beq_eq_true e4; subst e4
      have e5 := Nat.eq_of_beq_eq_true e5; subst e5
      have e6 := Nat.eq_of_beq_eq_true e6; subst e6
      have e7 := Nat.eq_of_beq_eq_true e7; subst e7
      have e8 := Nat.eq_of_beq_eq_true e8; subst e8
      have e9 := Nat.eq_of_beq_eq_true e9; subst e9
      have e10 := Nat.eq_of_beq_eq_true e10; subst e10
      have e11 := Nat.eq_of_beq_eq_true e11; subst e11
      have e12 := Nat.eq_of_beq_eq_true e12; subst e12
      have e13 := Nat.eq_of_beq_eq_true e13; subst e13
      cases h
      exact pop_loc ln h nx sl ok ⟨M, st, ⟨c0, k0, a0, f0, w0, i0, d0⟩⟩ FT
    · cases h
  · cases h

theorem psh_loc (ln : Int) (h : Int) (sl : Int) (S : MS) (FT : Nat → Nat → AV) : LocOk Tryd.prog 102 [.ptr 1 0 0, .ptr 2 0 0] (pshH ln h sl S FT) (pshR ln h sl S FT) := by
  unfold pshR
  rw [pshX_eq, pshY_eq]
  intro ρ w hp hr hf hg xs hx
  have hFT : FT = tabF tab := hp _ (List.mem_cons_self ..)
  have hu : U64 S := hp _ (List.mem_cons_of_mem _ (List.mem_cons_self ..))
  have hl : Ln3 ln := hp _ (List.mem_cons_of_mem _ (List.mem_cons_of_mem _ (List.mem_cons_self ..)))
  have hh : R64 h := hp _ (List.mem_cons_of_mem _ (List.mem_cons_of_mem _ (List.mem_cons_of_mem _ (List.mem_cons_self ..))))
  clear hp
  rcases hl with rfl | rfl | rfl | rfl
  · exact loc_symR (psh0_loc h sl S FT) ρ w (ob_cons hFT (ob_cons hu ob_nil)) hr hf hg xs hx
  · exact loc_symR (psh1_loc h sl S FT) ρ w (ob_cons hFT (ob_cons hu ob_nil)) hr hf hg xs hx
  · exact loc_symR (psh2_loc h sl S FT) ρ w (ob_cons hFT (ob_cons hu (ob_cons hh ob_nil))) hr hf hg xs hx
  · by_cases hs : casD S.M 0 0 0 h = true
    · exact loc_symR (psh3a_loc h sl S FT) ρ w (ob_cons hFT (ob_cons hu (ob_cons hh (ob_cons hs ob_nil)))) hr hf hg xs hx
    · exact loc_symR (psh3b_loc h sl S FT) ρ w (ob_cons hFT (ob_cons hu (ob_cons hh (ob_cons hs ob_nil)))) hr hf hg xs hx
noncomputable def pshSpec : LSpec := fun la lh => match la, lh with
  | [.ptr z1 z2 z3, .ptr z4 z5 z6], [(zt, .arr nt sht rot lent FT), (z7, .cells z8 [.sym .i64 ln, .sym .u64 h, .sym .i64 sl]), (z9, .cells z10 [.map z11, .sym .i64 st, .sym .u8 c0, .sym .u8 k0, .sym .i64 a0, .sym .i64 f0, .sym .u64 w0, .sym .u64 i0, .symb d0]), (z12, .map z13 M)] =>
    match (Nat.beq zt (gnm 0) && (Nat.beq nt tab.length && (shBeq sht (tab.map kindOfV) && (rot && Nat.beq lent 1)))) && (Nat.beq z1 1 && (Nat.beq z2 0 && (Nat.beq z3 0 && (Nat.beq z4 2 && (Nat.beq z5 0 && (Nat.beq z6 0 && (Nat.beq z7 1 && (Nat.beq z8 3 && (Nat.beq z9 2 && (Nat.beq z10 9 && (Nat.beq z11 3 && (Nat.beq z12 3 && (Nat.beq z13 110))))))))))))) with
    | true => some (pshR ln h sl ⟨M, st, ⟨c0, k0, a0, f0, w0, i0, d0⟩⟩ FT)
    | false => none
  | _, _ => none
theorem pshSpec_ok (la : List AV) (lh : List (Nat × AO)) (R : LR) (h : pshSpec la lh = some R) : LocOk Tryd.prog 102 la lh R := by
  unfold pshSpec at h
  split at h
  · rename_i z1 z2 z3 z4 z5 z6 zt nt sht rot lent FT z7 z8 ln h sl z9 z10 z11 st c0 k0 a0 f0 w0 i0 d0 z12 z13 M
    split at h
    · rename_i hb
      simp only [Bool.and_eq_true] at hb
      obtain ⟨⟨t1, t2, t3, t4, t5⟩, e1, e2, e3, e4, e5, e6, e7, e8, e9, e10, e11, e12, e13⟩ := hb
      have t1 := Nat.eq_of_beq_eq_true t1; subst t1
      have t2 := Nat.eq_of_beq_eq_true t2; subst t2
      have t3 := shBeq_eq t3; subst t3
      subst t4
      have t5 := Nat.eq_of_beq_eq_true t5; subst t5
      have e1 := Nat.eq_of_beq_eq_true e1; subst e1
      have e2 := Nat.eq_of_beq_eq_true e2; subst e2
      have e3 := Nat.eq_of_beq_eq_true e3; subst e3
      have e4 := Nat.eq_of_beq_eq_true e4; subst e4
      have e5 := Nat.eq_of_beq_eq_true e5; subst e5
      have e6 := Nat.eq_of_beq_eq_true e6; subst e6
      have e7 := Nat.eq_of_beq_eq_true e7; subst e7
      have e8 := Nat.eq_of_beq_eq_true e8; subst e8
      have e9 := Nat.eq_of_beq_eq_true e9; subst e9
      have e10 := Nat.eq_of_beq_eq_true e10; subst e10
      have e11 := Nat.eq_of_beq_eq_true e11; subst e11
      have e12 := Nat.eq_of_beq_eq_true e12; subst e12
      have e13 := Nat.eq_of_beq_eq_true e13; subst e13
      cases h
      exact psh_loc ln h sl ⟨M, st, ⟨c0, k0, a0, f0, w0, i0, d0⟩⟩ FT
    · cases h
  · cases h

end Go.Proofs.YtljeiencnpnbkaaDoor
