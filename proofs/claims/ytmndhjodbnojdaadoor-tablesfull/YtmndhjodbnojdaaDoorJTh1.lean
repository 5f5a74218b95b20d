/-
  joinedOver: its contract.
-/
import Derived.Test.YtmndhjodbnojdaaDoorJTh1Def
set_option linter.unusedSimpArgs false
set_option linter.unusedVariables false
namespace Go.Proofs.YtmndhjodbnojdaaDoor
open Go.Ev
theorem jv1_1 (o : Int) (x : Int) (S : MS) : callB ETo 2000 27 [AV.ptr 1 0 0, AV.sym IntKind.i64 o, AV.sym IntKind.u64 x] (jv1H o x S (tabF tab)) (jv1R o x S (tabF tab)) [] [Hint.lp [0, 1, 2, 6, 7, 8, 9] (Ex.exit 0) (ovlX o x S 16).tmps (ovlX o x S 16).hp.heap 3 [1, 2], Hint.b true] =
 some ([jdG (ovN x S 16) o = jdG (ovN x S 16) o,
 jdE (ovN x S 16) o = jdE (ovN x S 16) o,
 Int.ofNat (jdK (ovN x S 16) o) = Int.ofNat (jdK (ovN x S 16) o),
 true = true,
 (1 : Nat) ≤ (1 : Nat),
 tabF tab = tabF tab ∧ plainSh (List.map kindOfV tab) = true ∨ ∀ (i : Nat), i < 1 → rowOb (List.map kindOfV tab) 0 (tabF tab i) (tabF tab i),
 (jdY (ovN x S 16) o).st = (jdY (ovN x S 16) o).st,
 (jdY (ovN x S 16) o).L.c = (jdY (ovN x S 16) o).L.c,
 (jdY (ovN x S 16) o).L.k = (jdY (ovN x S 16) o).L.k,
 (jdY (ovN x S 16) o).L.a = (jdY (ovN x S 16) o).L.a,
 (jdY (ovN x S 16) o).L.f = (jdY (ovN x S 16) o).L.f,
 (jdY (ovN x S 16) o).L.w = (jdY (ovN x S 16) o).L.w,
 (jdY (ovN x S 16) o).L.i = (jdY (ovN x S 16) o).L.i,
 (jdY (ovN x S 16) o).L.d = (jdY (ovN x S 16) o).L.d,
 ∀ (k : List Int), (jdY (ovN x S 16) o).M k = (jdY (ovN x S 16) o).M k,
 tabF tab = tabF tab,
 JdOk (ovN x S 16) o,
 ovlLP o x S]) := by kernel_rfl
theorem jv1_loc (o : Int) (x : Int) (S : MS) (FT : Nat → Nat → AV) : LocOk Tryd.prog 27 [.ptr 1 0 0, .sym .i64 o, .sym .u64 x] (jv1H o x S FT) (jv1R o x S FT) := by
  refine loc_of_call ETo_ok (fun hp => ?_)
  have hFT : FT = tabF tab := hp _ (List.mem_cons_self ..)
  have hu : U64 S := hp _ (List.mem_cons_of_mem _ (List.mem_cons_self ..))
  have hx : R64 x := hp _ (List.mem_cons_of_mem _ (List.mem_cons_of_mem _ (List.mem_cons_self ..)))
  have hj : JdOk (ovN x S 16) o := hp _ (List.mem_cons_of_mem _ (List.mem_cons_of_mem _ (List.mem_cons_of_mem _ (List.mem_cons_self ..))))
  clear hp
  subst hFT
  have hlp := ovl_lp o x S hu hx
  refine ⟨2000, _, _, _, jv1_1 .., (ob_cons rfl (ob_cons rfl (ob_cons rfl (ob_cons rfl (ob_cons (Nat.le_refl _) (ob_cons (.inl ⟨rfl, rfl⟩) (ob_cons rfl (ob_cons rfl (ob_cons rfl (ob_cons rfl (ob_cons rfl (ob_cons rfl (ob_cons rfl (ob_cons rfl (ob_cons (fun _ => rfl) (ob_cons rfl (ob_cons ?_ (ob_cons ?_ ob_nil))))))))))))))))))⟩
  · with_reducible assumption
  · with_reducible assumption
noncomputable def jvdR (o : Int) (x : Int) (S : MS) (FT : Nat → Nat → AV) : LR := ⟨2, .tup [.sym .i64 (jdG (ovX x S) o), .sym .i64 (jdE (ovX x S) o), .sym .i64 (Int.ofNat (jdK (ovX x S) o))], [(gnm 0, .arr tab.length (tab.map kindOfV) true 1 FT), (1, .cells 9 (.map 2 :: lsL (jdY (ovX x S) o).st (jdY (ovX x S) o).L)), (2, .map 115 (jdY (ovX x S) o).M)], 0, [1, 2], [FT = tabF tab, U64 S, R64 x, JdOk (ovX x S) o]⟩
theorem jvd_loc (o : Int) (x : Int) (S : MS) (FT : Nat → Nat → AV) : LocOk Tryd.prog 27 [.ptr 1 0 0, .sym .i64 o, .sym .u64 x] [(gnm 0, .arr tab.length (tab.map kindOfV) true 1 FT), (1, .cells 9 (.map 2 :: lsL S.st S.L)), (2, .map 115 S.M)] (jvdR o x S FT) := by
  unfold jvdR
  rw [ovX_eq]
  exact jv1_loc o x S FT
noncomputable def jvdSpec : LSpec := fun la lh => match la, lh with
  | [.ptr z1 z2 z3, .sym .i64 o, .sym .u64 x], [(zt, .arr nt sht rot lent FT), (z4, .cells z5 [.map z6, .sym .i64 st, .sym .u8 c0, .sym .u8 k0, .sym .i64 a0, .sym .i64 f0, .sym .u64 w0, .sym .u64 i0, .symb d0]), (z7, .map z8 M)] =>
    match (Nat.beq zt (gnm 0) && (Nat.beq nt tab.length && (shBeq sht (tab.map kindOfV) && (rot && Nat.beq lent 1)))) && (Nat.beq z1 1 && (Nat.beq z2 0 && (Nat.beq z3 0 && (Nat.beq z4 1 && (Nat.beq z5 9 && (Nat.beq z6 2 && (Nat.beq z7 2 && (Nat.beq z8 115)))))))) with
    | true => some (jvdR o x ⟨M, st, ⟨c0, k0, a0, f0, w0, i0, d0⟩⟩ FT)
    | false => none
  | _, _ => none
theorem jvdSpec_ok (la : List AV) (lh : List (Nat × AO)) (R : LR) (h : jvdSpec la lh = some R) : LocOk Tryd.prog 27 la lh R := by
  unfold jvdSpec at h
  split at h
  · rename_i z1 z2 z3 o x zt nt sht rot lent FT z4 z5 z6 st c0 k0 a0 f0 w0 i0 d0 z7 z8 M
    split at h
    · rename_i hb
      simp only [Bool.and_eq_true] at hb
      obtain ⟨⟨t1, t2, t3, t4, t5⟩, e1, e2, e3, e4, e5, e6, e7, e8⟩ := hb
      have t1 := Nat.eq_of_beq_eq_true t1; subst t1
      have t2 := Nat.eq_of_beq_eq_true t2; subst t2
      have t3 := shBeq_eq t3; subst t3
      subst t4
      have t5 := Nat.eq_of_beq_eq_true t5; subst t5
      have e1 := Nat.eq_of_beq_eq_true e1; subst e1
      have e2 := Nat.eq_of_beq_eq_true e2; subst e2
      have e3 := Nat.eq_of_beq_eq_true e3; subst e3
      have e4 := Nat.eq_of_beq_eq_true e4; subst e4
      have e5 := Nat.eq_of_beq_eq_true e5; subst e5
      have e6 := Nat.eq_of_beq_eq_true e6; subst e6
      have e7 := Nat.eq_of_beq_eq_true e7; subst e7
      have e8 := Nat.eq_of_beq_eq_true e8; subst e8
      cases h
      exact jvd_loc o x ⟨M, st, ⟨c0, k0, a0, f0, w0, i0, d0⟩⟩ FT
    · cases h
  · cases h

end Go.Proofs.YtmndhjodbnojdaaDoor
