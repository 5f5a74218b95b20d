/-
  The document's Take: its contract.
-/
import Derived.Test.YtmndhjodbnojdaaDoorJRa
import Derived.Test.YtmndhjodbnojdaaDoorEvFam
set_option linter.unusedSimpArgs false
set_option linter.unusedVariables false
namespace Go.Proofs.YtmndhjodbnojdaaDoor
open Go.Ev
noncomputable def rkX : Nat → RS → TO → TO := hide rkO
noncomputable def rkYX : RS → TO → RS := hide rkS
noncomputable def rkEX : Nat → (Nat → Enty) → RS → TO → Nat → Enty := hide rkE
theorem rkX_eq (n : Nat) (R : RS) (o : TO) : rkX n R o = rkO n R o := congrFun (congrFun (congrFun (hide_eq rkO) n) R) o
theorem rkYX_eq (R : RS) (o : TO) : rkYX R o = rkS R o := congrFun (congrFun (hide_eq rkS) R) o
theorem rkEX_eq (n : Nat) (E : Nat → Enty) (R : RS) (o : TO) : rkEX n E R o = rkE n E R o := congrFun (congrFun (congrFun (congrFun (hide_eq rkE) n) E) R) o
noncomputable def rksR (n l : Nat) (f : Nat → Nat → AV) (at_ ln h sl : Int) (e : Enty) (nw lw : Nat) (g : Nat → Nat → AV) (s2 : Int) (L2 : LS) : LR := ⟨4, .tup [], [(1, .cells 12 [.sym .i64 (rkX n (mkR nw g s2 L2) (TO.mk ln h sl e)).ln, .ss 6 5 0 (teNX n (TO.mk ln h sl e)) none, .nils, .sym .i64 at_, .sym .u64 (rkX n (mkR nw g s2 L2) (TO.mk ln h sl e)).h, .sym .i64 (rkX n (mkR nw g s2 L2) (TO.mk ln h sl e)).sl, .sym .i64 (rkX n (mkR nw g s2 L2) (TO.mk ln h sl e)).e.slot, .sym .u32 (rkX n (mkR nw g s2 L2) (TO.mk ln h sl e)).e.gen, .symb (rkX n (mkR nw g s2 L2) (TO.mk ln h sl e)).e.mark, .sym .u64 (rkX n (mkR nw g s2 L2) (TO.mk ln h sl e)).e.birth, .sym .u64 (rkX n (mkR nw g s2 L2) (TO.mk ln h sl e)).e.epoch, .sym .u64 (rkX n (mkR nw g s2 L2) (TO.mk ln h sl e)).e.era]), (5, .arr 6 ySh false (teNX n (TO.mk ln h sl e)) (yF (rkEX n (fun i => yOf (f i)) (mkR nw g s2 L2) (TO.mk ln h sl e)))), (3, .cells 9 (.ss 4 6 0 (rkYX (mkR nw g s2 L2) (TO.mk ln h sl e)).D.n none :: lsL (rkYX (mkR nw g s2 L2) (TO.mk ln h sl e)).st (rkYX (mkR nw g s2 L2) (TO.mk ln h sl e)).L)), (6, .arr 4 wSh false (rkYX (mkR nw g s2 L2) (TO.mk ln h sl e)).D.n (wdF (rkYX (mkR nw g s2 L2) (TO.mk ln h sl e)).D.W))], 2, [1, 2, 3, 4], [TLn ln, n ≤ l ∧ n ≤ 1000000, R64 h, RU nw lw g]⟩
theorem rks_loc (n l : Nat) (f : Nat → Nat → AV) (at_ ln h sl : Int) (e : Enty) (nw lw : Nat) (g : Nat → Nat → AV) (s2 : Int) (L2 : LS) : LocOk Tryd.prog 96 [.ptr 1 0 0, .ptr 3 0 0] [(1, .cells 12 [.sym .i64 ln, .ss 6 2 0 n none, .nils, .sym .i64 at_, .sym .u64 h, .sym .i64 sl, .sym .i64 e.slot, .sym .u32 e.gen, .symb e.mark, .sym .u64 e.birth, .sym .u64 e.epoch, .sym .u64 e.era]), (2, .arr 6 ySh false l f), (3, .cells 9 (.ss 4 4 0 nw none :: lsL s2 L2)), (4, .arr 4 wSh false lw g)] (rksR n l f at_ ln h sl e nw lw g s2 L2) := by
  unfold rksR
  rw [rkX_eq, rkYX_eq, teNX_eq, rkEX_eq]
  intro ρ w hp hr hf hg xs hx
  have hl : TLn ln := hp _ (List.mem_cons_self ..)
  have hnl : n ≤ l ∧ n ≤ 1000000 := hp _ (List.mem_cons_of_mem _ (List.mem_cons_self ..))
  have hh : R64 h := hp _ (List.mem_cons_of_mem _ (List.mem_cons_of_mem _ (List.mem_cons_self ..)))
  have hR : RU nw lw g := hp _ (List.mem_cons_of_mem _ (List.mem_cons_of_mem _ (List.mem_cons_of_mem _ (List.mem_cons_self ..))))
  clear hp
  rcases hl with rfl | rfl | rfl | rfl | rfl | rfl | rfl | rfl
  · exact loc_symR (rk0_loc n l f at_ h sl e nw lw g s2 L2) ρ w (ob_cons hnl (ob_cons hh (ob_cons hR ob_nil))) hr hf hg xs hx
  · by_cases hs : hSlot (dWord (dOf nw g) 4 0 0) < 0
    · exact loc_symR (rk1a_loc n l f at_ h sl e nw lw g s2 L2) ρ w (ob_cons hnl (ob_cons hh (ob_cons hR (ob_cons hs ob_nil)))) hr hf hg xs hx
    · exact loc_symR (rk1b_loc n l f at_ h sl e nw lw g s2 L2) ρ w (ob_cons hnl (ob_cons hh (ob_cons hR (ob_cons hs ob_nil)))) hr hf hg xs hx
  · by_cases hs : dCasD (dOf nw g) 4 0 0 h = true
    · exact loc_symR (rk2a_loc n l f at_ h sl e nw lw g s2 L2) ρ w (ob_cons hnl (ob_cons hh (ob_cons hR (ob_cons hs ob_nil)))) hr hf hg xs hx
    · exact loc_symR (rk2b_loc n l f at_ h sl e nw lw g s2 L2) ρ w (ob_cons hnl (ob_cons hh (ob_cons hR (ob_cons hs ob_nil)))) hr hf hg xs hx
  · exact loc_symR (rk3_loc n l f at_ h sl e nw lw g s2 L2) ρ w (ob_cons hnl (ob_cons hh (ob_cons hR ob_nil))) hr hf hg xs hx
  · exact loc_symR (rk4_loc n l f at_ h sl e nw lw g s2 L2) ρ w (ob_cons hnl (ob_cons hh (ob_cons hR ob_nil))) hr hf hg xs hx
  · exact loc_symR (rk5_loc n l f at_ h sl e nw lw g s2 L2) ρ w (ob_cons hnl (ob_cons hh (ob_cons hR ob_nil))) hr hf hg xs hx
  · exact loc_symR (rk6_loc n l f at_ h sl e nw lw g s2 L2) ρ w (ob_cons hnl (ob_cons hh (ob_cons hR ob_nil))) hr hf hg xs hx
  · by_cases hs : hSlot (dWord (dOf nw g) 9 sl 2) < 0
    · exact loc_symR (rk7a_loc n l f at_ h sl e nw lw g s2 L2) ρ w (ob_cons hnl (ob_cons hh (ob_cons hR (ob_cons hs ob_nil)))) hr hf hg xs hx
    · by_cases h256 : 256 ≤ n
      · exact loc_symR (rk7b_loc n l f at_ h sl e nw lw g s2 L2) ρ w (ob_cons hnl (ob_cons hh (ob_cons hR (ob_cons hs (ob_cons h256 ob_nil))))) hr hf hg xs hx
      · exact loc_symR (rk7c_loc n l f at_ h sl e nw lw g s2 L2) ρ w (ob_cons hnl (ob_cons hh (ob_cons hR (ob_cons hs (ob_cons h256 ob_nil))))) hr hf hg xs hx
noncomputable def rksSpec : LSpec := fun la lh => match la, lh with
  | [.ptr z1 z2 z3, .ptr z4 z5 z6], [(z7, .cells z8 [.sym .i64 ln, .ss z9 z10 z11 n none, .nils, .sym .i64 at_, .sym .u64 h, .sym .i64 sl, .sym .i64 es, .sym .u32 eg, .symb em, .sym .u64 eb, .sym .u64 ee, .sym .u64 er]), (z12, .arr z13 z14 false l f), (z15, .cells z16 [.ss z17 z18 z19 nw none, .sym .i64 s2, .sym .u8 c2, .sym .u8 k2, .sym .i64 a2, .sym .i64 f2, .sym .u64 w2, .sym .u64 i2, .symb d2]), (z20, .arr z21 z22 false lw g)] =>
    match Nat.beq z1 1 && (Nat.beq z2 0 && (Nat.beq z3 0 && (Nat.beq z4 3 && (Nat.beq z5 0 && (Nat.beq z6 0 && (Nat.beq z7 1 && (Nat.beq z8 12 && (Nat.beq z9 6 && (Nat.beq z10 2 && (Nat.beq z11 0 && (Nat.beq z12 2 && (Nat.beq z13 6 && (shBeq z14 ySh && (Nat.beq z15 3 && (Nat.beq z16 9 && (Nat.beq z17 4 && (Nat.beq z18 4 && (Nat.beq z19 0 && (Nat.beq z20 4 && (Nat.beq z21 4 && (shBeq z22 wSh))))))))))))))))))))) with
    | true => some (rksR n l f at_ ln h sl ⟨es, eg, em, eb, ee, er⟩ nw lw g s2 ⟨c2, k2, a2, f2, w2, i2, d2⟩)
    | false => none
  | _, _ => none
theorem rksSpec_ok (la : List AV) (lh : List (Nat × AO)) (R : LR) (h : rksSpec la lh = some R) : LocOk Tryd.prog 96 la lh R := by
  unfold rksSpec at h
  split at h
  · rename_i z1 z2 z3 z4 z5 z6 z7 z8 ln z9 z10 z11 n at_ h sl es eg em eb ee er z12 z13 z14 l f z15 z16 z17 z18 z19 nw s2 c2 k2 a2 f2 w2 i2 d2 z20 z21 z22 lw g
    split at h
    · rename_i hb
      simp only [Bool.and_eq_true] at hb
      obtain ⟨e1, e2, e3, e4, e5, e6, e7, e8, e9, e10, e11, e12, e13, e14, e15, e16, e17, e18, e19, e20, e21, e22⟩ := hb
      have e1 := Nat.eq_of_beq_eq_true e1; subst e1
      have e2 := Nat.eq_of_beq_eq_true e2; subst e2
      have e3 := Nat.eq_of_beq_eq_true e3; subst e3
      have e4 := Nat.eq_of_beq_eq_true e4; subst e4
      have e5 := Nat.eq_of_beq_eq_true e5; subst e5
      have e6 := Nat.eq_of_beq_eq_true e6; subst e6
      have e7 := Nat.eq_of_beq_eq_true e7; subst e7
      have e8 := Nat.eq_of_beq_eq_true e8; subst e8
      have e9 := Nat.eq_of_beq_eq_true e9; subst e9
      have e10 := Nat.eq_of_beq_eq_true e10; subst e10
      have e11 := Nat.eq_of_beq_eq_true e11; subst e11
      have e12 := Nat.eq_of_beq_eq_true e12; subst e12
      have e13 := Nat.eq_of_beq_eq_true e13; subst e13
      have e14 := shBeq_eq e14; subst e14
      have e15 := Nat.eq_of_beq_eq_true e15; subst e15
      have e16 := Nat.eq_of_beq_eq_true e16; subst e16
      have e17 := Nat.eq_of_beq_eq_true e17; subst e17
      have e18 := Nat.eq_of_beq_eq_true e18; subst e18
      have e19 := Nat.eq_of_beq_eq_true e19; subst e19
      have e20 := Nat.eq_of_beq_eq_true e20; subst e20
      have e21 := Nat.eq_of_beq_eq_true e21; subst e21
      have e22 := shBeq_eq e22; subst e22
      cases h
      exact rks_loc n l f at_ ln h sl ⟨es, eg, em, eb, ee, er⟩ nw lw g s2 ⟨c2, k2, a2, f2, w2, i2, d2⟩
    · cases h
  · cases h
end Go.Proofs.YtmndhjodbnojdaaDoor
