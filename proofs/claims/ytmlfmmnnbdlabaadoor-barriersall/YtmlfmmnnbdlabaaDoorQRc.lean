/-
  BarriersAll: run.
-/
import Derived.Test.YtmlfmmnnbdlabaaDoorQRcDef
set_option linter.unusedSimpArgs false
set_option linter.unusedVariables false
namespace Go.Proofs.YtmlfmmnnbdlabaaDoor
open Go.Ev
attribute [local irreducible] rnK rnN
theorem rnc_1 (nb lk st c0 k0 a0 f0 w0 i0 : Int) (d0 : Bool) (M : List Int → Option Int) : callB EBq 4000 20 [AV.ptr 1 0 0, AV.ptr 3 0 0] (rncH nb lk st c0 k0 a0 f0 w0 i0 d0 M (tabF tab)) (rncR nb lk st c0 k0 a0 f0 w0 i0 d0 M (tabF tab)) [] [Hint.lp [0, 1, 4, 5] (Ex.exit 0) (rnX nb lk (rnAl M) (rnK nb lk (MS.mk M st (LS.mk c0 k0 a0 f0 w0 i0 d0))) (rnN nb lk (rnAl M) (MS.mk M st (LS.mk c0 k0 a0 f0 w0 i0 d0)) (rnK nb lk (MS.mk M st (LS.mk c0 k0 a0 f0 w0 i0 d0))))).tmps (rnX nb lk (rnAl M) (rnK nb lk (MS.mk M st (LS.mk c0 k0 a0 f0 w0 i0 d0))) (rnN nb lk (rnAl M) (MS.mk M st (LS.mk c0 k0 a0 f0 w0 i0 d0)) (rnK nb lk (MS.mk M st (LS.mk c0 k0 a0 f0 w0 i0 d0))))).hp.heap 4 [1, 2, 3], Hint.b true] =
 some ([Int.ofNat (rnK nb lk (MS.mk M st (LS.mk c0 k0 a0 f0 w0 i0 d0)) + 1) = Int.ofNat (rnK nb lk (MS.mk M st (LS.mk c0 k0 a0 f0 w0 i0 d0)) + 1),
 true = true,
 (1 : Nat) ≤ (1 : Nat),
 tabF tab = tabF tab ∧ plainSh (List.map kindOfV tab) = true ∨ ∀ (i : Nat), i < 1 → rowOb (List.map kindOfV tab) 0 (tabF tab i) (tabF tab i),
 (rnN nb lk (rnAl M) (MS.mk M st (LS.mk c0 k0 a0 f0 w0 i0 d0)) (rnK nb lk (MS.mk M st (LS.mk c0 k0 a0 f0 w0 i0 d0)))).S.st = (rnN nb lk (rnAl M) (MS.mk M st (LS.mk c0 k0 a0 f0 w0 i0 d0)) (rnK nb lk (MS.mk M st (LS.mk c0 k0 a0 f0 w0 i0 d0)))).S.st,
 (rnN nb lk (rnAl M) (MS.mk M st (LS.mk c0 k0 a0 f0 w0 i0 d0)) (rnK nb lk (MS.mk M st (LS.mk c0 k0 a0 f0 w0 i0 d0)))).S.L.c = (rnN nb lk (rnAl M) (MS.mk M st (LS.mk c0 k0 a0 f0 w0 i0 d0)) (rnK nb lk (MS.mk M st (LS.mk c0 k0 a0 f0 w0 i0 d0)))).S.L.c,
 (rnN nb lk (rnAl M) (MS.mk M st (LS.mk c0 k0 a0 f0 w0 i0 d0)) (rnK nb lk (MS.mk M st (LS.mk c0 k0 a0 f0 w0 i0 d0)))).S.L.k = (rnN nb lk (rnAl M) (MS.mk M st (LS.mk c0 k0 a0 f0 w0 i0 d0)) (rnK nb lk (MS.mk M st (LS.mk c0 k0 a0 f0 w0 i0 d0)))).S.L.k,
 (rnN nb lk (rnAl M) (MS.mk M st (LS.mk c0 k0 a0 f0 w0 i0 d0)) (rnK nb lk (MS.mk M st (LS.mk c0 k0 a0 f0 w0 i0 d0)))).S.L.a = (rnN nb lk (rnAl M) (MS.mk M st (LS.mk c0 k0 a0 f0 w0 i0 d0)) (rnK nb lk (MS.mk M st (LS.mk c0 k0 a0 f0 w0 i0 d0)))).S.L.a,
 (rnN nb lk (rnAl M) (MS.mk M st (LS.mk c0 k0 a0 f0 w0 i0 d0)) (rnK nb lk (MS.mk M st (LS.mk c0 k0 a0 f0 w0 i0 d0)))).S.L.f = (rnN nb lk (rnAl M) (MS.mk M st (LS.mk c0 k0 a0 f0 w0 i0 d0)) (rnK nb lk (MS.mk M st (LS.mk c0 k0 a0 f0 w0 i0 d0)))).S.L.f,
 (rnN nb lk (rnAl M) (MS.mk M st (LS.mk c0 k0 a0 f0 w0 i0 d0)) (rnK nb lk (MS.mk M st (LS.mk c0 k0 a0 f0 w0 i0 d0)))).S.L.w = (rnN nb lk (rnAl M) (MS.mk M st (LS.mk c0 k0 a0 f0 w0 i0 d0)) (rnK nb lk (MS.mk M st (LS.mk c0 k0 a0 f0 w0 i0 d0)))).S.L.w,
 (rnN nb lk (rnAl M) (MS.mk M st (LS.mk c0 k0 a0 f0 w0 i0 d0)) (rnK nb lk (MS.mk M st (LS.mk c0 k0 a0 f0 w0 i0 d0)))).S.L.i = (rnN nb lk (rnAl M) (MS.mk M st (LS.mk c0 k0 a0 f0 w0 i0 d0)) (rnK nb lk (MS.mk M st (LS.mk c0 k0 a0 f0 w0 i0 d0)))).S.L.i,
 (rnN nb lk (rnAl M) (MS.mk M st (LS.mk c0 k0 a0 f0 w0 i0 d0)) (rnK nb lk (MS.mk M st (LS.mk c0 k0 a0 f0 w0 i0 d0)))).S.L.d = (rnN nb lk (rnAl M) (MS.mk M st (LS.mk c0 k0 a0 f0 w0 i0 d0)) (rnK nb lk (MS.mk M st (LS.mk c0 k0 a0 f0 w0 i0 d0)))).S.L.d,
 ∀ (k : List Int), (rnN nb lk (rnAl M) (MS.mk M st (LS.mk c0 k0 a0 f0 w0 i0 d0)) (rnK nb lk (MS.mk M st (LS.mk c0 k0 a0 f0 w0 i0 d0)))).S.M k = M k,
 nb = nb,
 (rnN nb lk (rnAl M) (MS.mk M st (LS.mk c0 k0 a0 f0 w0 i0 d0)) (rnK nb lk (MS.mk M st (LS.mk c0 k0 a0 f0 w0 i0 d0)))).x.lk = (rnN nb lk (rnAl M) (MS.mk M st (LS.mk c0 k0 a0 f0 w0 i0 d0)) (rnK nb lk (MS.mk M st (LS.mk c0 k0 a0 f0 w0 i0 d0)))).x.lk,
 (rnN nb lk (rnAl M) (MS.mk M st (LS.mk c0 k0 a0 f0 w0 i0 d0)) (rnK nb lk (MS.mk M st (LS.mk c0 k0 a0 f0 w0 i0 d0)))).x.th = (rnN nb lk (rnAl M) (MS.mk M st (LS.mk c0 k0 a0 f0 w0 i0 d0)) (rnK nb lk (MS.mk M st (LS.mk c0 k0 a0 f0 w0 i0 d0)))).x.th,
 rnAl M = rnAl M,
 (rnN nb lk (rnAl M) (MS.mk M st (LS.mk c0 k0 a0 f0 w0 i0 d0)) (rnK nb lk (MS.mk M st (LS.mk c0 k0 a0 f0 w0 i0 d0)))).x.at_ = (rnN nb lk (rnAl M) (MS.mk M st (LS.mk c0 k0 a0 f0 w0 i0 d0)) (rnK nb lk (MS.mk M st (LS.mk c0 k0 a0 f0 w0 i0 d0)))).x.at_,
 (rnN nb lk (rnAl M) (MS.mk M st (LS.mk c0 k0 a0 f0 w0 i0 d0)) (rnK nb lk (MS.mk M st (LS.mk c0 k0 a0 f0 w0 i0 d0)))).x.wt = (rnN nb lk (rnAl M) (MS.mk M st (LS.mk c0 k0 a0 f0 w0 i0 d0)) (rnK nb lk (MS.mk M st (LS.mk c0 k0 a0 f0 w0 i0 d0)))).x.wt,
 (rnN nb lk (rnAl M) (MS.mk M st (LS.mk c0 k0 a0 f0 w0 i0 d0)) (rnK nb lk (MS.mk M st (LS.mk c0 k0 a0 f0 w0 i0 d0)))).x.en = (rnN nb lk (rnAl M) (MS.mk M st (LS.mk c0 k0 a0 f0 w0 i0 d0)) (rnK nb lk (MS.mk M st (LS.mk c0 k0 a0 f0 w0 i0 d0)))).x.en,
 rnLP nb lk (rnAl M) (MS.mk M st (LS.mk c0 k0 a0 f0 w0 i0 d0)) (rnK nb lk (MS.mk M st (LS.mk c0 k0 a0 f0 w0 i0 d0))) (rnN nb lk (rnAl M) (MS.mk M st (LS.mk c0 k0 a0 f0 w0 i0 d0)) (rnK nb lk (MS.mk M st (LS.mk c0 k0 a0 f0 w0 i0 d0))))]) := by kernel_rfl
theorem rnc_loc (nb lk st c0 k0 a0 f0 w0 i0 : Int) (d0 : Bool) (M : List Int → Option Int) (FT : Nat → Nat → AV) : LocOk Tryd.prog 20 [.ptr 1 0 0, .ptr 3 0 0] (rncH nb lk st c0 k0 a0 f0 w0 i0 d0 M FT) (rncR nb lk st c0 k0 a0 f0 w0 i0 d0 M FT) := by
  refine loc_of_call EBq_ok (fun hp => ?_)
  have hFT : FT = tabF tab := hp _ (List.mem_cons_self ..)
  have hb : 0 ≤ mget M (key 5 0 0) := hp _ (List.mem_cons_of_mem _ (List.mem_cons_self ..))
  have hlk : 1 ≤ lk ∧ lk ≤ 60 := hp _ (List.mem_cons_of_mem _ (List.mem_cons_of_mem _ (List.mem_cons_self ..)))
  clear hp
  subst hFT
  obtain ⟨hK, hok, k0', k1', hoff⟩ := rn_ok (X := ⟨M, st, ⟨c0, k0, a0, f0, w0, i0, d0⟩⟩) (nb := nb) (lk := lk) hb hlk
  have hMk : ∀ k : List Int, (rnN nb lk (rnAl M) ⟨M, st, ⟨c0, k0, a0, f0, w0, i0, d0⟩⟩ (rnK nb lk ⟨M, st, ⟨c0, k0, a0, f0, w0, i0, d0⟩⟩)).S.M k = M k := fun k => congrFun hoff.M k
  have hlp := rn_lp nb lk (rnAl M) ⟨M, st, ⟨c0, k0, a0, f0, w0, i0, d0⟩⟩ (rnK nb lk ⟨M, st, ⟨c0, k0, a0, f0, w0, i0, d0⟩⟩) (by omega) hok k0' k1'
  refine ⟨4000, _, _, _, rnc_1 .., (ob_cons rfl (ob_cons rfl (ob_cons (Nat.le_refl _) (ob_cons (.inl ⟨rfl, rfl⟩) (ob_cons rfl (ob_cons rfl (ob_cons rfl (ob_cons rfl (ob_cons rfl (ob_cons rfl (ob_cons rfl (ob_cons rfl (ob_cons ?_ (ob_cons rfl (ob_cons rfl (ob_cons rfl (ob_cons rfl (ob_cons rfl (ob_cons rfl (ob_cons rfl (ob_cons ?_ ob_nil)))))))))))))))))))))⟩
  ·
    first | with_reducible assumption | exact hlp | omega | exact fun _ => rfl
  ·
    first | with_reducible assumption | exact hlp | omega | trivial
noncomputable def rncG (b1 b2 : Bool) (t0 a1 at0 wt0 e0 nb lk st c0 k0 a0 f0 w0 i0 : Int) (d0 : Bool) (M : List Int → Option Int) (FT : Nat → Nat → AV) : LR := ⟨3, (rncR nb lk st c0 k0 a0 f0 w0 i0 d0 M FT).v, (rncR nb lk st c0 k0 a0 f0 w0 i0 d0 M FT).heap, 0, [1, 2, 3], (b1 = true) :: (b2 = true) :: (t0 = 0) :: (a1 = 0) :: (at0 = -1) :: (wt0 = -1) :: (e0 = 0) :: (rncR nb lk st c0 k0 a0 f0 w0 i0 d0 M FT).ob⟩
theorem rncG_loc (b1 b2 : Bool) (t0 a1 at0 wt0 e0 nb lk st c0 k0 a0 f0 w0 i0 : Int) (d0 : Bool) (M : List Int → Option Int) (FT : Nat → Nat → AV) : LocOk Tryd.prog 20 [.ptr 1 0 0, .ptr 3 0 0] [(gnm 0, .arr tab.length (tab.map kindOfV) true 1 FT), (1, .cells 9 (.map 2 :: .sym .i64 st :: [.sym .u8 c0, .sym .u8 k0, .sym .i64 a0, .sym .i64 f0, .sym .u64 w0, .sym .u64 i0, .symb d0])), (2, .map 76 M), (3, .cells 9 [.bool b1, .bool b2, .sym .u64 nb, .sym .i64 lk, .int .i64 t0, .int .i64 a1, .int .i64 at0, .int .i64 wt0, .int .i64 e0])] (rncG b1 b2 t0 a1 at0 wt0 e0 nb lk st c0 k0 a0 f0 w0 i0 d0 M FT) := by
  intro ρ w hob
  have e1 : b1 = true := hob _ (List.mem_cons_self ..)
  have e2 : b2 = true := hob _ (List.mem_cons_of_mem _ (List.mem_cons_self ..))
  have e3 : t0 = 0 := hob _ (List.mem_cons_of_mem _ (List.mem_cons_of_mem _ (List.mem_cons_self ..)))
  have e4 : a1 = 0 := hob _ (List.mem_cons_of_mem _ (List.mem_cons_of_mem _ (List.mem_cons_of_mem _ (List.mem_cons_self ..))))
  have e5 : at0 = -1 := hob _ (List.mem_cons_of_mem _ (List.mem_cons_of_mem _ (List.mem_cons_of_mem _ (List.mem_cons_of_mem _ (List.mem_cons_self ..)))))
  have e6 : wt0 = -1 := hob _ (List.mem_cons_of_mem _ (List.mem_cons_of_mem _ (List.mem_cons_of_mem _ (List.mem_cons_of_mem _ (List.mem_cons_of_mem _ (List.mem_cons_self ..))))))
  have e7 : e0 = 0 := hob _ (List.mem_cons_of_mem _ (List.mem_cons_of_mem _ (List.mem_cons_of_mem _ (List.mem_cons_of_mem _ (List.mem_cons_of_mem _ (List.mem_cons_of_mem _ (List.mem_cons_self ..)))))))
  subst e1; subst e2; subst e3; subst e4; subst e5; subst e6; subst e7
  exact rnc_loc nb lk st c0 k0 a0 f0 w0 i0 d0 M FT ρ w (fun p hp => hob p (List.mem_cons_of_mem _ (List.mem_cons_of_mem _ (List.mem_cons_of_mem _ (List.mem_cons_of_mem _ (List.mem_cons_of_mem _ (List.mem_cons_of_mem _ (List.mem_cons_of_mem _ hp))))))))
noncomputable def rncSpec : LSpec := fun la lh => match la, lh with
  | [.ptr z1 z2 z3, .ptr z4 z5 z6], [(zt, .arr nt sht rot lent FT), (z7, .cells z8 (.map z9 :: .sym .i64 st :: [.sym .u8 c0, .sym .u8 k0, .sym .i64 a0, .sym .i64 f0, .sym .u64 w0, .sym .u64 i0, .symb d0])), (z10, .map z11 M), (z12, .cells z13 [.bool b1, .bool b2, .sym .u64 nb, .sym .i64 lk, .int .i64 t0, .int .i64 a1, .int .i64 at0, .int .i64 wt0, .int .i64 e0])] =>
    match (Nat.beq zt (gnm 0) && (Nat.beq nt tab.length && (shBeq sht (tab.map kindOfV) && (rot && Nat.beq lent 1)))) && (Nat.beq z1 1 && (Nat.beq z2 0 && (Nat.beq z3 0 && (Nat.beq z4 3 && (Nat.beq z5 0 && (Nat.beq z6 0 && (Nat.beq z7 1 && (Nat.beq z8 9 && (Nat.beq z9 2 && (Nat.beq z10 2 && (Nat.beq z11 76 && (Nat.beq z12 3 && (Nat.beq z13 9))))))))))))) with
    | true => some (rncG b1 b2 t0 a1 at0 wt0 e0 nb lk st c0 k0 a0 f0 w0 i0 d0 M FT)
    | false => none
  | _, _ => none
theorem rncSpec_ok (la : List AV) (lh : List (Nat × AO)) (R : LR) (h : rncSpec la lh = some R) : LocOk Tryd.prog 20 la lh R := by
  unfold rncSpec at h
  split at h
  · rename_i z1 z2 z3 z4 z5 z6 zt nt sht rot lent FT z7 z8 z9 st c0 k0 a0 f0 w0 i0 d0 z10 z11 M z12 z13 b1 b2 nb lk t0 a1 at0 wt0 e0
    split at h
    · rename_i hb
      simp only [Bool.and_eq_true] at hb
      obtain ⟨⟨t1, t2, t3, t4, t5⟩, e1, e2, e3, e4, e5, e6, e7, e8, e9, e10, e11, e12, e13⟩ := hb
      have t1 := Nat.eq_of_beq_eq_true t1; subst t1
      have t2 := Nat.eq_of_beq_eq_true t2; subst t2
      have t3 := shBeq_eq t3; subst t3
      subst t4
      have t5 := Nat.eq_of_beq_eq_true t5; subst t5
      have e1 := Nat.eq_of_beq_eq_true e1; subst e1
      have e2 := Nat.eq_of_beq_eq_true e2; subst e2
      have e3 := Nat.eq_of_beq_eq_true e3; subst e3
      have e4 := Nat.eq_of_beq_eq_true e4; subst e4
      have e5 := Nat.eq_of_beq_eq_true e5; subst e5
      have e6 := Nat.eq_of_beq_eq_true e6; subst e6
      have e7 := Nat.eq_of_beq_eq_true e7; subst e7
      have e8 := Nat.eq_of_beq_eq_true e8; subst e8
      have e9 := Nat.eq_of_beq_eq_true e9; subst e9
      have e10 := Nat.eq_of_beq_eq_true e10; subst e10
      have e11 := Nat.eq_of_beq_eq_true e11; subst e11
      have e12 := Nat.eq_of_beq_eq_true e12; subst e12
      have e13 := Nat.eq_of_beq_eq_true e13; subst e13
      cases h
      exact rncG_loc b1 b2 t0 a1 at0 wt0 e0 nb lk st c0 k0 a0 f0 w0 i0 d0 M FT
    · cases h
  · cases h

end Go.Proofs.YtmlfmmnnbdlabaaDoor
