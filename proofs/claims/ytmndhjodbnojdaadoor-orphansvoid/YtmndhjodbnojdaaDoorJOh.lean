/-
  Steps of a Give: the contract.
-/
import Derived.Test.YtmndhjodbnojdaaDoorJOhDef
set_option linter.unusedSimpArgs false
set_option linter.unusedVariables false
namespace Go.Proofs.YtmndhjodbnojdaaDoor
open Go.Ev
theorem gv_loc (n : Nat) (l : Nat) (f : Nat → Nat → AV) (ln : Int) (h : Int) (a : Int) (S : MS) (FT : Nat → Nat → AV) : LocOk Tryd.prog 35 [.ptr 1 0 0, .ptr 3 0 0] (gvH n l f ln h a S FT) (gvR n l f ln h a S FT) := by
  unfold gvR
  rw [gvX_eq, gvY_eq]
  intro ρ w hp hr hf hg xs hx
  have hFT : FT = tabF tab := hp _ (List.mem_cons_self ..)
  have hu : U64 S := hp _ (List.mem_cons_of_mem _ (List.mem_cons_self ..))
  have hl : GLn n ln a := hp _ (List.mem_cons_of_mem _ (List.mem_cons_of_mem _ (List.mem_cons_self ..)))
  have hnl : n ≤ l := hp _ (List.mem_cons_of_mem _ (List.mem_cons_of_mem _ (List.mem_cons_of_mem _ (List.mem_cons_self ..))))
  have hh : R64 h := hp _ (List.mem_cons_of_mem _ (List.mem_cons_of_mem _ (List.mem_cons_of_mem _ (List.mem_cons_of_mem _ (List.mem_cons_self ..)))))
  have hn : n ≤ 1000000 := hp _ (List.mem_cons_of_mem _ (List.mem_cons_of_mem _ (List.mem_cons_of_mem _ (List.mem_cons_of_mem _ (List.mem_cons_of_mem _ (List.mem_cons_self ..))))))
  clear hp
  rcases hl with rfl | ⟨rfl, ha0, ha1⟩ | ⟨hn0, rfl | rfl | rfl⟩
  · exact loc_symR (gv0_loc n l f h a S FT) ρ w (ob_cons hFT (ob_cons hu ob_nil)) hr hf hg xs hx
  · by_cases hs : IntKind.i64.wrap (a + 1) = IntKind.i64.wrap (Int.ofNat n - 1)
    · exact loc_symR (gv1a_loc n l f h a S FT) ρ w (ob_cons hFT (ob_cons hu (ob_cons hnl (ob_cons ha0 (ob_cons ha1 (ob_cons hn (ob_cons hs ob_nil))))))) hr hf hg xs hx
    · exact loc_symR (gv1b_loc n l f h a S FT) ρ w (ob_cons hFT (ob_cons hu (ob_cons hnl (ob_cons ha0 (ob_cons ha1 (ob_cons hn (ob_cons hs ob_nil))))))) hr hf hg xs hx
  · exact loc_symR (gv2_loc n l f h a S FT) ρ w (ob_cons hFT (ob_cons hu ob_nil)) hr hf hg xs hx
  · exact loc_symR (gv3_loc n l f h a S FT) ρ w (ob_cons hFT (ob_cons hu (ob_cons hnl (ob_cons hh (ob_cons hn0 (ob_cons hn ob_nil)))))) hr hf hg xs hx
  · by_cases hs : casD S.M 4 0 0 h = true
    · exact loc_symR (gv4a_loc n l f h a S FT) ρ w (ob_cons hFT (ob_cons hu (ob_cons hnl (ob_cons hh (ob_cons hn0 (ob_cons hn (ob_cons hs ob_nil))))))) hr hf hg xs hx
    · exact loc_symR (gv4b_loc n l f h a S FT) ρ w (ob_cons hFT (ob_cons hu (ob_cons hnl (ob_cons hh (ob_cons hn0 (ob_cons hn (ob_cons hs ob_nil))))))) hr hf hg xs hx
noncomputable def gvSpec : LSpec := fun la lh => match la, lh with
  | [.ptr z1 z2 z3, .ptr z4 z5 z6], [(zt, .arr nt sht rot lent FT), (z7, .cells z8 [.sym .i64 ln, .sym .u64 h, .ss z9 z10 z11 n none, .sym .i64 a]), (z12, .arr z13 z14 false l f), (z15, .cells z16 [.map z17, .sym .i64 st, .sym .u8 c0, .sym .u8 k0, .sym .i64 a0, .sym .i64 f0, .sym .u64 w0, .sym .u64 i0, .symb d0]), (z18, .map z19 M)] =>
    match (Nat.beq zt (gnm 0) && (Nat.beq nt tab.length && (shBeq sht (tab.map kindOfV) && (rot && Nat.beq lent 1)))) && (Nat.beq z1 1 && (Nat.beq z2 0 && (Nat.beq z3 0 && (Nat.beq z4 3 && (Nat.beq z5 0 && (Nat.beq z6 0 && (Nat.beq z7 1 && (Nat.beq z8 4 && (Nat.beq z9 1 && (Nat.beq z10 2 && (Nat.beq z11 0 && (Nat.beq z12 2 && (Nat.beq z13 1 && (shBeq z14 iSh && (Nat.beq z15 3 && (Nat.beq z16 9 && (Nat.beq z17 4 && (Nat.beq z18 4 && (Nat.beq z19 115))))))))))))))))))) with
    | true => some (gvR n l f ln h a ⟨M, st, ⟨c0, k0, a0, f0, w0, i0, d0⟩⟩ FT)
    | false => none
  | _, _ => none
theorem gvSpec_ok (la : List AV) (lh : List (Nat × AO)) (R : LR) (h : gvSpec la lh = some R) : LocOk Tryd.prog 35 la lh R := by
  unfold gvSpec at h
  split at h
  · rename_i z1 z2 z3 z4 z5 z6 zt nt sht rot lent FT z7 z8 ln h z9 z10 z11 n a z12 z13 z14 l f z15 z16 z17 st c0 k0 a0 f0 w0 i0 d0 z18 z19 M
    split at h
    · rename_i hb
      simp only [Bool.and_eq_true] at hb
      obtain ⟨⟨t1, t2, t3, t4, t5⟩, e1, e2, e3, e4, e5, e6, e7, e8, e9, e10, e11, e12, e13, e14, e15, e16, e17, e18, e19⟩ := hb
      have t1 := Nat.eq_of_beq_eq_true t1; subst t1
      have t2 := Nat.eq_of_beq_eq_true t2; subst t2
      have t3 := shBeq_eq t3; subst t3
      subst t4
      have t5 := Nat.eq_of_beq_eq_true t5; subst t5
      have e1 := Nat.eq_of_beq_eq_true e1; subst e1
      have e2 := Nat.eq_of_beq_eq_true e2; subst e2
      have e3 := Nat.eq_of_beq_eq_true e3; subst e3
      have e4 := Nat.eq_of_beq_eq_true e4; subst e4
      have e5 := Nat.eq_of_beq_eq_true e5; subst e5
      have e6 := Nat.eq_of_beq_eq_true e6; subst e6
      have e7 := Nat.eq_of_beq_eq_true e7; subst e7
      have e8 := Nat.eq_of_beq_eq_true e8; subst e8
      have e9 := Nat.eq_of_beq_eq_true e9; subst e9
      have e10 := Nat.eq_of_beq_eq_true e10; subst e10
      have e11 := Nat.eq_of_beq_eq_true e11; subst e11
      have e12 := Nat.eq_of_beq_eq_true e12; subst e12
      have e13 := Nat.eq_of_beq_eq_true e13; subst e13
      have e14 := shBeq_eq e14; subst e14
      have e15 := Nat.eq_of_beq_eq_true e15; subst e15
      have e16 := Nat.eq_of_beq_eq_true e16; subst e16
      have e17 := Nat.eq_of_beq_eq_true e17; subst e17
      have e18 := Nat.eq_of_beq_eq_true e18; subst e18
      have e19 := Nat.eq_of_beq_eq_true e19; subst e19
      cases h
      exact gv_loc n l f ln h a ⟨M, st, ⟨c0, k0, a0, f0, w0, i0, d0⟩⟩ FT
    · cases h
  · cases h

end Go.Proofs.YtmndhjodbnojdaaDoor
