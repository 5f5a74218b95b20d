/-
  of: its contract.
-/
import Derived.Test.YtmndhjodbnojdaaDoorJPwDef
set_option linter.unusedSimpArgs false
set_option linter.unusedVariables false
namespace Go.Proofs.YtmndhjodbnojdaaDoor
open Go.Ev
theorem of0_1 (S : MS) (s : Int) : callB EOf 2000 40 [AV.ptr 1 0 0, AV.sym IntKind.i64 s] (of0H S s (tabF tab)) (of0R S s (tabF tab)) [] [] =
 some ([s = (ofE s).slot,
 IntKind.u32.wrap (IntKind.u32.wrap s + 3) = (ofE s).gen,
 false = (ofE s).mark,
 IntKind.u64.wrap (IntKind.u64.wrap s + 1) = (ofE s).birth,
 IntKind.u64.wrap (IntKind.u64.wrap s + 5) = (ofE s).epoch,
 IntKind.u64.wrap (IntKind.u64.wrap s + 9) = (ofE s).era,
 true = true,
 (1 : Nat) ≤ (1 : Nat),
 tabF tab = tabF tab ∧ plainSh (List.map kindOfV tab) = true ∨ ∀ (i : Nat), i < 1 → rowOb (List.map kindOfV tab) 0 (tabF tab i) (tabF tab i),
 IntKind.i64.wrap (IntKind.i64.wrap (IntKind.i64.wrap (IntKind.i64.wrap (S.st + 1) + 1) + 1) + 1) = (ofS S s).st,
 (2 : Int) = 2,
 (9 : Int) = 9,
 s = (ofS S s).L.a,
 (4 : Int) = 4,
 mget (memPut (memPut (memPut S.M 9 s 0 (hdr 2 (IntKind.u32.wrap (IntKind.u32.wrap s + 3)))) 9 s 1 (IntKind.u64.wrap (IntKind.u64.wrap s + 1))) 9 s 3 (IntKind.u64.wrap (IntKind.u64.wrap s + 5))) (key 9 s 4) = (ofS S s).L.w,
 memIs (memPut (memPut (memPut S.M 9 s 0 (hdr 2 (IntKind.u32.wrap (IntKind.u32.wrap s + 3)))) 9 s 1 (IntKind.u64.wrap (IntKind.u64.wrap s + 1))) 9 s 3 (IntKind.u64.wrap (IntKind.u64.wrap s + 5))) 9 s 4 (IntKind.u64.wrap (IntKind.u64.wrap s + 9)) = (ofS S s).L.i,
 false = (ofS S s).L.d,
 ∀ (k : List Int), memPut (memPut (memPut (memPut S.M 9 s 0 (hdr 2 (IntKind.u32.wrap (IntKind.u32.wrap s + 3)))) 9 s 1 (IntKind.u64.wrap (IntKind.u64.wrap s + 1))) 9 s 3 (IntKind.u64.wrap (IntKind.u64.wrap s + 5))) 9 s 4 (IntKind.u64.wrap (IntKind.u64.wrap s + 9)) k = (ofS S s).M k,
 (0 : Int) ≤ (9 : Int),
 (0 : Int) ≤ (9 : Int),
 (0 : Int) ≤ (9 : Int),
 (0 : Int) ≤ (9 : Int),
 TabIs tab (tabF tab),
 (0 : Int) ≤ (2 : Int),
 (2 : Int) < (256 : Int),
 0 ≤ IntKind.u32.wrap (IntKind.u32.wrap s + 3),
 IntKind.u32.wrap (IntKind.u32.wrap s + 3) < 4294967296]) := by kernel_rfl
theorem of0_loc (S : MS) (s : Int) (FT : Nat → Nat → AV) : LocOk Tryd.prog 40 [.ptr 1 0 0, .sym .i64 s] (of0H S s FT) (of0R S s FT) := by
  refine loc_of_call EOf_ok (fun hp => ?_)
  have hFT : FT = tabF tab := hp _ (List.mem_cons_self ..)
  clear hp
  subst hFT
  refine ⟨2000, _, _, _, of0_1 .., (ob_cons ?_ (ob_cons ?_ (ob_cons ?_ (ob_cons ?_ (ob_cons ?_ (ob_cons ?_ (ob_cons rfl (ob_cons (Nat.le_refl _) (ob_cons (.inl ⟨rfl, rfl⟩) (ob_cons ?_ (ob_cons rfl (ob_cons rfl (ob_cons ?_ (ob_cons rfl (ob_cons ?_ (ob_cons ?_ (ob_cons ?_ (ob_cons ?_ (ob_cons (by decide) (ob_cons (by decide) (ob_cons (by decide) (ob_cons (by decide) (ob_cons (tabIs_self _) (ob_cons (by decide) (ob_cons (by decide) (ob_cons ?_ (ob_cons ?_ ob_nil)))))))))))))))))))))))))))⟩
  ·
    first | exact tabIs_self _ | exact rfl | exact fun _ => rfl | exact (u32_r _).1 | exact (u32_r _).2 | (simp; done) | omega | rfl
  ·
    first | exact tabIs_self _ | exact rfl | exact fun _ => rfl | exact (u32_r _).1 | exact (u32_r _).2 | (simp; done) | omega | exact wrap_nat64 _ (by simp; omega) (by simp; omega)
  ·
    first | exact tabIs_self _ | exact rfl | exact fun _ => rfl | exact (u32_r _).1 | exact (u32_r _).2 | (simp; done) | omega | rfl
  ·
    first | exact tabIs_self _ | exact rfl | exact fun _ => rfl | exact (u32_r _).1 | exact (u32_r _).2 | (simp; done) | omega | exact wrap_nat64 _ (by simp; omega) (by simp; omega)
  ·
    first | exact tabIs_self _ | exact rfl | exact fun _ => rfl | exact (u32_r _).1 | exact (u32_r _).2 | (simp; done) | omega | exact wrap_nat64 _ (by simp; omega) (by simp; omega)
  ·
    first | exact tabIs_self _ | exact rfl | exact fun _ => rfl | exact (u32_r _).1 | exact (u32_r _).2 | (simp; done) | omega | exact wrap_nat64 _ (by simp; omega) (by simp; omega)
  ·
    first | exact tabIs_self _ | exact rfl | exact fun _ => rfl | exact (u32_r _).1 | exact (u32_r _).2 | (simp; done) | omega | exact wrap_nat64 _ (by simp; omega) (by simp; omega)
  ·
    first | exact tabIs_self _ | exact rfl | exact fun _ => rfl | exact (u32_r _).1 | exact (u32_r _).2 | (simp; done) | omega | rfl
  ·
    first | exact tabIs_self _ | exact rfl | exact fun _ => rfl | exact (u32_r _).1 | exact (u32_r _).2 | (simp; done) | omega | rfl
  ·
    first | exact tabIs_self _ | exact rfl | exact fun _ => rfl | exact (u32_r _).1 | exact (u32_r _).2 | (simp; done) | omega | rfl
  ·
    first | exact tabIs_self _ | exact rfl | exact fun _ => rfl | exact (u32_r _).1 | exact (u32_r _).2 | (simp; done) | omega | rfl
  ·
    first | exact tabIs_self _ | exact rfl | exact fun _ => rfl | exact (u32_r _).1 | exact (u32_r _).2 | (simp; done) | omega | exact fun _ => rfl
  ·
    first | exact tabIs_self _ | exact rfl | exact fun _ => rfl | exact (u32_r _).1 | exact (u32_r _).2 | (simp; done) | omega | exact Nat.le_refl _ | omega
  ·
    first | exact tabIs_self _ | exact rfl | exact fun _ => rfl | exact (u32_r _).1 | exact (u32_r _).2 | (simp; done) | omega | omega
noncomputable def ofEX : Int → Enty := hide ofE
noncomputable def ofSX : MS → Int → MS := hide ofS
theorem ofEX_eq (s : Int) : ofEX s = ofE s := congrFun (hide_eq ofE) s
theorem ofSX_eq (S : MS) (s : Int) : ofSX S s = ofS S s := congrFun (congrFun (hide_eq ofS) S) s
noncomputable def ofcR (S : MS) (s : Int) (FT : Nat → Nat → AV) : LR := ⟨2, .agg [.sym .i64 (ofEX s).slot, .sym .u32 (ofEX s).gen, .symb (ofEX s).mark, .sym .u64 (ofEX s).birth, .sym .u64 (ofEX s).epoch, .sym .u64 (ofEX s).era], [(gnm 0, .arr tab.length (tab.map kindOfV) true 1 FT), (1, .cells 9 (.map 2 :: lsL (ofSX S s).st (ofSX S s).L)), (2, .map 115 (ofSX S s).M)], 0, [1, 2], [FT = tabF tab]⟩
theorem ofc_loc (S : MS) (s : Int) (FT : Nat → Nat → AV) : LocOk Tryd.prog 40 [.ptr 1 0 0, .sym .i64 s] [(gnm 0, .arr tab.length (tab.map kindOfV) true 1 FT), (1, .cells 9 (.map 2 :: lsL S.st S.L)), (2, .map 115 S.M)] (ofcR S s FT) := by
  unfold ofcR
  rw [ofEX_eq, ofSX_eq]
  exact of0_loc S s FT
noncomputable def ofcSpec : LSpec := fun la lh => match la, lh with
  | [.ptr z1 z2 z3, .sym .i64 s], [(zt, .arr nt sht rot lent FT), (z4, .cells z5 [.map z6, .sym .i64 st, .sym .u8 c0, .sym .u8 k0, .sym .i64 a0, .sym .i64 f0, .sym .u64 w0, .sym .u64 i0, .symb d0]), (z7, .map z8 M)] =>
    match (Nat.beq zt (gnm 0) && (Nat.beq nt tab.length && (shBeq sht (tab.map kindOfV) && (rot && Nat.beq lent 1)))) && (Nat.beq z1 1 && (Nat.beq z2 0 && (Nat.beq z3 0 && (Nat.beq z4 1 && (Nat.beq z5 9 && (Nat.beq z6 2 && (Nat.beq z7 2 && (Nat.beq z8 115)))))))) with
    | true => some (ofcR ⟨M, st, ⟨c0, k0, a0, f0, w0, i0, d0⟩⟩ s FT)
    | false => none
  | _, _ => none
theorem ofcSpec_ok (la : List AV) (lh : List (Nat × AO)) (R : LR) (h : ofcSpec la lh = some R) : LocOk Tryd.prog 40 la lh R := by
  unfold ofcSpec at h
  split at h
  · rename_i z1 z2 z3 s zt nt sht rot lent FT z4 z5 z6 st c0 k0 a0 f0 w0 i0 d0 z7 z8 M
    split at h
    · rename_i hb
      simp only [Bool.and_eq_true] at hb
      obtain ⟨⟨t1, t2, t3, t4, t5⟩, e1, e2, e3, e4, e5, e6, e7, e8⟩ := hb
      have t1 := Nat.eq_of_beq_eq_true t1; subst t1
      have t2 := Nat.eq_of_beq_eq_true t2; subst t2
      have t3 := shBeq_eq t3; subst t3
      subst t4
      have t5 := Nat.eq_of_beq_eq_true t5; subst t5
      have e1 := Nat.eq_of_beq_eq_true e1; subst e1
      have e2 := Nat.eq_of_beq_eq_true e2; subst e2
      have e3 := Nat.eq_of_beq_eq_true e3; subst e3
      have e4 := Nat.eq_of_beq_eq_true e4; subst e4
      have e5 := Nat.eq_of_beq_eq_true e5; subst e5
      have e6 := Nat.eq_of_beq_eq_true e6; subst e6
      have e7 := Nat.eq_of_beq_eq_true e7; subst e7
      have e8 := Nat.eq_of_beq_eq_true e8; subst e8
      cases h
      exact ofc_loc ⟨M, st, ⟨c0, k0, a0, f0, w0, i0, d0⟩⟩ s FT
    · cases h
  · cases h

end Go.Proofs.YtmndhjodbnojdaaDoor
