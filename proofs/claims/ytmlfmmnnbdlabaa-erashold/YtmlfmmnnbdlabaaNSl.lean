/-
  Chapter 14: taken.
-/
import Derived.Test.YtmlfmmnnbdlabaaNSlDef
set_option linter.unusedSimpArgs false
set_option linter.unusedVariables false
namespace Go.Proofs.Ytmlfmmnnbdlabaa
open Go.Ev
theorem tkn_1 (st c0 k0 a0 f0 w0 i0 : Int) (d0 : Bool) (M : List Int → Option Int) (mo : Int) : callB ESk 2000 45 [AV.ptr 1 0 0, AV.sym IntKind.i64 mo] (tknH st c0 k0 a0 f0 w0 i0 d0 M mo) (tknR st c0 k0 a0 f0 w0 i0 d0 M mo) [(3, Src.nm 9)] [Hint.lp [0, 1, 4, 5, 6, 7, 8] (Ex.exit 0) (skX (skAl M) mo (svN 0 0 0 (-1) (MS.mk M st (LS.mk c0 k0 a0 f0 w0 i0 d0)) (stC M (skAl M)))).tmps (skX (skAl M) mo (svN 0 0 0 (-1) (MS.mk M st (LS.mk c0 k0 a0 f0 w0 i0 d0)) (stC M (skAl M)))).hp.heap 6 [5, 1, 2], Hint.b false, Hint.b false] =
 some ([(0 : Nat) = 0,
 skAl M - 0 = skAl M,
 lessC (some (skAl M)) 0 = some (skAl M),
 (0 : Int) = 0,
 (svN 0 0 0 (-1) (MS.mk M st (LS.mk c0 k0 a0 f0 w0 i0 d0)) (stC M (skAl M))).m.st = (skM (MS.mk M st (LS.mk c0 k0 a0 f0 w0 i0 d0))).st,
 (svN 0 0 0 (-1) (MS.mk M st (LS.mk c0 k0 a0 f0 w0 i0 d0)) (stC M (skAl M))).m.L.c = (skM (MS.mk M st (LS.mk c0 k0 a0 f0 w0 i0 d0))).L.c,
 (svN 0 0 0 (-1) (MS.mk M st (LS.mk c0 k0 a0 f0 w0 i0 d0)) (stC M (skAl M))).m.L.k = (skM (MS.mk M st (LS.mk c0 k0 a0 f0 w0 i0 d0))).L.k,
 (svN 0 0 0 (-1) (MS.mk M st (LS.mk c0 k0 a0 f0 w0 i0 d0)) (stC M (skAl M))).m.L.a = (skM (MS.mk M st (LS.mk c0 k0 a0 f0 w0 i0 d0))).L.a,
 (svN 0 0 0 (-1) (MS.mk M st (LS.mk c0 k0 a0 f0 w0 i0 d0)) (stC M (skAl M))).m.L.f = (skM (MS.mk M st (LS.mk c0 k0 a0 f0 w0 i0 d0))).L.f,
 (svN 0 0 0 (-1) (MS.mk M st (LS.mk c0 k0 a0 f0 w0 i0 d0)) (stC M (skAl M))).m.L.w = (skM (MS.mk M st (LS.mk c0 k0 a0 f0 w0 i0 d0))).L.w,
 (svN 0 0 0 (-1) (MS.mk M st (LS.mk c0 k0 a0 f0 w0 i0 d0)) (stC M (skAl M))).m.L.i = (skM (MS.mk M st (LS.mk c0 k0 a0 f0 w0 i0 d0))).L.i,
 (svN 0 0 0 (-1) (MS.mk M st (LS.mk c0 k0 a0 f0 w0 i0 d0)) (stC M (skAl M))).m.L.d = (skM (MS.mk M st (LS.mk c0 k0 a0 f0 w0 i0 d0))).L.d,
 ∀ (k : List Int), (svN 0 0 0 (-1) (MS.mk M st (LS.mk c0 k0 a0 f0 w0 i0 d0)) (stC M (skAl M))).m.M k = M k,
 false = false,
 skAl M ≤ skAl M,
 (stF M = fun i j => (svN 0 0 0 (-1) (MS.mk M st (LS.mk c0 k0 a0 f0 w0 i0 d0)) (stC M (skAl M))).F (0 + i) j) ∧ plainSh tSh = true ∨ ∀ (i : Nat), i < skAl M → rowOb tSh 0 (fun j => (svN 0 0 0 (-1) (MS.mk M st (LS.mk c0 k0 a0 f0 w0 i0 d0)) (stC M (skAl M))).F (0 + i) j) (stF M i),
 (Nat.blt 0 (capOr (some (skAl M)) (skAl M)) || Nat.beq 0 0) = true,
 ((skAl M).ble (capOr (some (skAl M)) (skAl M)) && decide (0 ≤ Int.ofNat (skAl M))) = true,
 ((skAl M).ble (capOr none (skAl M)) && decide (0 ≤ Int.ofNat (skAl M))) = true,
 (skAl M).beq 0 = false,
 (skAl M * 80).ble 70368744177664 = true,
 (0 + skAl M).ble (skAl M) = true,
 Nat.blt 0 (skAl M) = true,
 skLP (skAl M) mo (MS.mk M st (LS.mk c0 k0 a0 f0 w0 i0 d0)) (svN 0 0 0 (-1) (MS.mk M st (LS.mk c0 k0 a0 f0 w0 i0 d0)) (stC M (skAl M)))]) := by kernel_rfl
theorem tkn_loc (st c0 k0 a0 f0 w0 i0 : Int) (d0 : Bool) (M : List Int → Option Int) (mo : Int) : LocOk Try.prog 45 [.ptr 1 0 0, .sym .i64 mo] (tknH st c0 k0 a0 f0 w0 i0 d0 M mo) (tknR st c0 k0 a0 f0 w0 i0 d0 M mo) := by
  refine loc_of_call ESk_ok (fun hp => ?_)
  have hmo : mo = 200 := hp _ (List.mem_cons_self ..)
  have hb : 0 ≤ mget M (key 5 0 0) := hp _ (List.mem_cons_of_mem _ (List.mem_cons_self ..))
  have h0 : mget M (key 5 0 0) ≠ 0 := hp _ (List.mem_cons_of_mem _ (List.mem_cons_of_mem _ (List.mem_cons_self ..)))
  clear hp
  have hlp := tk_lp ⟨M, st, ⟨c0, k0, a0, f0, w0, i0, d0⟩⟩ hmo hb h0
  have hk := st_all (who := 0) (fd := 0) (w := 0) (x := ⟨M, st, ⟨c0, k0, a0, f0, w0, i0, d0⟩⟩) (stC M (skAl M))
  obtain ⟨b, hb4, hab, htb, hbz⟩ := skAl_eq hb
  have hb0 : b ≠ 0 := fun e => h0 (hbz.1 e)
  have hend := st_end (al := skAl M) hk
  have hMk := fun k => congrFun hk.M k
  have hblt : Nat.blt 0 (skAl M) = true := Nat.ble_eq_true_of_le (by omega)
  have hbeq : (skAl M).beq 0 = false := by
    cases hq : skAl M with
    | zero => omega
    | succ _ => rfl
  have hrows := Or.inr (a := (stF M = fun i j => (svN 0 0 0 (-1) ⟨M, st, ⟨c0, k0, a0, f0, w0, i0, d0⟩⟩ (stC M (skAl M))).F (0 + i) j) ∧ plainSh tSh = true) (stF_rows (svN 0 0 0 (-1) ⟨M, st, ⟨c0, k0, a0, f0, w0, i0, d0⟩⟩ (stC M (skAl M))).F hend.2)
  refine ⟨2000, _, _, _, tkn_1 .., (ob_cons rfl (ob_cons ?_ (ob_cons ?_ (ob_cons rfl (ob_cons ?_ (ob_cons ?_ (ob_cons ?_ (ob_cons ?_ (ob_cons ?_ (ob_cons ?_ (ob_cons ?_ (ob_cons ?_ (ob_cons ?_ (ob_cons rfl (ob_cons (Nat.le_refl _) (ob_cons ?_ (ob_cons ?_ (ob_cons ?_ (ob_cons ?_ (ob_cons ?_ (ob_cons ?_ (ob_cons ?_ (ob_cons ?_ (ob_cons ?_ ob_nil))))))))))))))))))))))))⟩
  · exact rfl
  · exact rfl
  · exact rfl
  · exact rfl
  · exact rfl
  · exact rfl
  · exact rfl
  · exact rfl
  · exact rfl
  · exact rfl
  · exact hMk
  · exact hrows
  · (simp; done)
  · (simp [capOr]; done)
  · (simp [capOr]; done)
  · exact hbeq
  · (apply Nat.ble_eq_true_of_le; omega)
  · (simp; done)
  · exact hblt
  · exact hlp
noncomputable def tknSpec : LSpec := fun la lh => match la, lh with
  | [.ptr z1 z2 z3, .sym .i64 mo], [(z4, .cells z5 (.map z6 :: .sym .i64 st :: [.sym .u8 c0, .sym .u8 k0, .sym .i64 a0, .sym .i64 f0, .sym .u64 w0, .sym .u64 i0, .symb d0])), (z7, .map z8 M)] =>
    match Nat.beq z1 1 && (Nat.beq z2 0 && (Nat.beq z3 0 && (Nat.beq z4 1 && (Nat.beq z5 9 && (Nat.beq z6 2 && (Nat.beq z7 2 && (Nat.beq z8 128))))))) with
    | true => some (tknR st c0 k0 a0 f0 w0 i0 d0 M mo)
    | false => none
  | _, _ => none
theorem tknSpec_ok (la : List AV) (lh : List (Nat × AO)) (R : LR) (h : tknSpec la lh = some R) : LocOk Try.prog 45 la lh R := by
  unfold tknSpec at h
  split at h
  · rename_i z1 z2 z3 mo z4 z5 z6 st c0 k0 a0 f0 w0 i0 d0 z7 z8 M
    split at h
    · rename_i hb
      simp only [Bool.and_eq_true] at hb
      obtain ⟨e1, e2, e3, e4, e5, e6, e7, e8⟩ := hb
      have e1 := Nat.eq_of_beq_eq_true e1; subst e1
      have e2 := Nat.eq_of_beq_eq_true e2; subst e2
      have e3 := Nat.eq_of_beq_eq_true e3; subst e3
      have e4 := Nat.eq_of_beq_eq_true e4; subst e4
      have e5 := Nat.eq_of_beq_eq_true e5; subst e5
      have e6 := Nat.eq_of_beq_eq_true e6; subst e6
      have e7 := Nat.eq_of_beq_eq_true e7; subst e7
      have e8 := Nat.eq_of_beq_eq_true e8; subst e8
      cases h
      exact tkn_loc st c0 k0 a0 f0 w0 i0 d0 M mo
    · cases h
  · cases h

theorem tkz_1 (st c0 k0 a0 f0 w0 i0 : Int) (d0 : Bool) (M : List Int → Option Int) (mo : Int) : callB ESk 2000 45 [AV.ptr 1 0 0, AV.sym IntKind.i64 mo] (tkzH st c0 k0 a0 f0 w0 i0 d0 M mo) (tkzR st c0 k0 a0 f0 w0 i0 d0 M mo) [(3, Src.nm 8)] [Hint.b true, Hint.b true, Hint.b true] =
 some ([(0 : Nat) = 0,
 (0 : Nat) = 0,
 lessC (some 0) 0 = some 0,
 (0 : Int) = 0,
 IntKind.i64.wrap (st + 1) = (mLoad (MS.mk M st (LS.mk c0 k0 a0 f0 w0 i0 d0)) 5 0 0).st,
 (1 : Int) = 1,
 (5 : Int) = 5,
 (0 : Int) = 0,
 (0 : Int) = 0,
 mget M (key 5 0 0) = (mLoad (MS.mk M st (LS.mk c0 k0 a0 f0 w0 i0 d0)) 5 0 0).L.w,
 mget M (key 5 0 0) = (mLoad (MS.mk M st (LS.mk c0 k0 a0 f0 w0 i0 d0)) 5 0 0).L.i,
 false = (mLoad (MS.mk M st (LS.mk c0 k0 a0 f0 w0 i0 d0)) 5 0 0).L.d,
 ∀ (k : List Int), M k = M k,
 false = false,
 (0 : Nat) ≤ (0 : Nat),
 (stF M = fun x x_1 => AV.top) ∧ plainSh (List.map kindOf (ofVal (Value.agg #[Value.int IntKind.u64 0, Value.int IntKind.u64 0, Value.int IntKind.u64 0, Value.int IntKind.u64 0, Value.int IntKind.u64 0, Value.int IntKind.u64 0, Value.int IntKind.u64 0, Value.int IntKind.u64 0, Value.int IntKind.u64 0, Value.int IntKind.u64 0])).cells) = true ∨ ∀ (i : Nat), i < 0 → rowOb (List.map kindOf (ofVal (Value.agg #[Value.int IntKind.u64 0, Value.int IntKind.u64 0, Value.int IntKind.u64 0, Value.int IntKind.u64 0, Value.int IntKind.u64 0, Value.int IntKind.u64 0, Value.int IntKind.u64 0, Value.int IntKind.u64 0, Value.int IntKind.u64 0, Value.int IntKind.u64 0])).cells) 0 (fun x => AV.top) (stF M i),
 decide (1 < mo) = true,
 0 ≤ mget M (key 5 0 0),
 tbN M = 0,
 decide (0 < mo) = true]) := by kernel_rfl
theorem tkz_loc (st c0 k0 a0 f0 w0 i0 : Int) (d0 : Bool) (M : List Int → Option Int) (mo : Int) : LocOk Try.prog 45 [.ptr 1 0 0, .sym .i64 mo] (tkzH st c0 k0 a0 f0 w0 i0 d0 M mo) (tkzR st c0 k0 a0 f0 w0 i0 d0 M mo) := by
  refine loc_of_call ESk_ok (fun hp => ?_)
  have hmo : mo = 200 := hp _ (List.mem_cons_self ..)
  have h0 : mget M (key 5 0 0) = 0 := hp _ (List.mem_cons_of_mem _ (List.mem_cons_self ..))
  clear hp
  have htb : tbN M = 0 := by unfold tbN; rw [h0]; rfl
  refine ⟨2000, _, _, _, tkz_1 .., (ob_cons rfl (ob_cons rfl (ob_cons ?_ (ob_cons rfl (ob_cons ?_ (ob_cons rfl (ob_cons rfl (ob_cons rfl (ob_cons rfl (ob_cons ?_ (ob_cons ?_ (ob_cons ?_ (ob_cons (fun _ => rfl) (ob_cons rfl (ob_cons (Nat.le_refl _) (ob_cons ?_ (ob_cons ?_ (ob_cons ?_ (ob_cons ?_ (ob_cons ?_ ob_nil))))))))))))))))))))⟩
  · (subst hmo; decide)
  · exact rfl
  · exact rfl
  · exact rfl
  · exact rfl
  · exact .inr (fun _ h => absurd h (Nat.not_lt_zero _))
  · (subst hmo; decide)
  · (rw [h0]; exact Int.le_refl _)
  · exact htb
  · (subst hmo; decide)
noncomputable def tkzSpec : LSpec := fun la lh => match la, lh with
  | [.ptr z1 z2 z3, .sym .i64 mo], [(z4, .cells z5 (.map z6 :: .sym .i64 st :: [.sym .u8 c0, .sym .u8 k0, .sym .i64 a0, .sym .i64 f0, .sym .u64 w0, .sym .u64 i0, .symb d0])), (z7, .map z8 M)] =>
    match Nat.beq z1 1 && (Nat.beq z2 0 && (Nat.beq z3 0 && (Nat.beq z4 1 && (Nat.beq z5 9 && (Nat.beq z6 2 && (Nat.beq z7 2 && (Nat.beq z8 128))))))) with
    | true => some (tkzR st c0 k0 a0 f0 w0 i0 d0 M mo)
    | false => none
  | _, _ => none
theorem tkzSpec_ok (la : List AV) (lh : List (Nat × AO)) (R : LR) (h : tkzSpec la lh = some R) : LocOk Try.prog 45 la lh R := by
  unfold tkzSpec at h
  split at h
  · rename_i z1 z2 z3 mo z4 z5 z6 st c0 k0 a0 f0 w0 i0 d0 z7 z8 M
    split at h
    · rename_i hb
      simp only [Bool.and_eq_true] at hb
      obtain ⟨e1, e2, e3, e4, e5, e6, e7, e8⟩ := hb
      have e1 := Nat.eq_of_beq_eq_true e1; subst e1
      have e2 := Nat.eq_of_beq_eq_true e2; subst e2
      have e3 := Nat.eq_of_beq_eq_true e3; subst e3
      have e4 := Nat.eq_of_beq_eq_true e4; subst e4
      have e5 := Nat.eq_of_beq_eq_true e5; subst e5
      have e6 := Nat.eq_of_beq_eq_true e6; subst e6
      have e7 := Nat.eq_of_beq_eq_true e7; subst e7
      have e8 := Nat.eq_of_beq_eq_true e8; subst e8
      cases h
      exact tkz_loc st c0 k0 a0 f0 w0 i0 d0 M mo
    · cases h
  · cases h

/-- taken, by a hint: of no blocks or of some. -/
noncomputable def takenSP : SP := altSP tkzSpec tknSpec
theorem takenSP_ok : SPOk Try.prog 45 takenSP := altSP_ok tkzSpec_ok tknSpec_ok
end Go.Proofs.Ytmlfmmnnbdlabaa
