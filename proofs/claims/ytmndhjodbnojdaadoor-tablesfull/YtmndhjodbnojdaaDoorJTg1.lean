/-
  joined, left: contracts.
-/
import Derived.Test.YtmndhjodbnojdaaDoorJTg1Def
set_option linter.unusedSimpArgs false
set_option linter.unusedVariables false
namespace Go.Proofs.YtmndhjodbnojdaaDoor
open Go.Ev
theorem jd1_1 (w : Int) (S : MS) (kk : Nat) : callB ETf 2000 29 [AV.ptr 1 0 0, AV.sym IntKind.i64 w] (jd1H w S kk (tabF tab)) (jd1R w S kk (tabF tab)) [] [Hint.b false, Hint.lp [0, 1, 4, 5, 6, 7, 8] Ex.ret (jdaX w S kk kk).tmps (jdaX w S kk kk).hp.heap 4 [3, 1, 2]] =
 some ([(jdIt S w (kk + 1)).o.th = (jdIt S w (kk + 1)).o.th,
 (0 : Int) = 0,
 Int.ofNat kk + 1 = Int.ofNat kk + 1,
 true = true,
 (1 : Nat) ≤ (1 : Nat),
 tabF tab = tabF tab ∧ plainSh (List.map kindOfV tab) = true ∨ ∀ (i : Nat), i < 1 → rowOb (List.map kindOfV tab) 0 (tabF tab i) (tabF tab i),
 (jdIt S w (kk + 1)).S.st = (jdIt S w (kk + 1)).S.st,
 (jdIt S w (kk + 1)).S.L.c = (jdIt S w (kk + 1)).S.L.c,
 (jdIt S w (kk + 1)).S.L.k = (jdIt S w (kk + 1)).S.L.k,
 (jdIt S w (kk + 1)).S.L.a = (jdIt S w (kk + 1)).S.L.a,
 (jdIt S w (kk + 1)).S.L.f = (jdIt S w (kk + 1)).S.L.f,
 (jdIt S w (kk + 1)).S.L.w = (jdIt S w (kk + 1)).S.L.w,
 (jdIt S w (kk + 1)).S.L.i = (jdIt S w (kk + 1)).S.L.i,
 (jdIt S w (kk + 1)).S.L.d = (jdIt S w (kk + 1)).S.L.d,
 ∀ (k : List Int), (jdIt S w (kk + 1)).S.M k = (jdIt S w (kk + 1)).S.M k,
 jdaLP w S kk,
 decide (w < 0) = false]) := by kernel_rfl
theorem jd1_loc (w : Int) (S : MS) (kk : Nat) (FT : Nat → Nat → AV) : LocOk Tryd.prog 29 [.ptr 1 0 0, .sym .i64 w] (jd1H w S kk FT) (jd1R w S kk FT) := by
  refine loc_of_call ETf_ok (fun hp => ?_)
  have hFT : FT = tabF tab := hp _ (List.mem_cons_self ..)
  have hu : U64 S := hp _ (List.mem_cons_of_mem _ (List.mem_cons_self ..))
  have hat : JdAt S w (kk + 1) := hp _ (List.mem_cons_of_mem _ (List.mem_cons_of_mem _ (List.mem_cons_self ..)))
  have he : (jdIt S w (kk + 1)).o.e = 0 := hp _ (List.mem_cons_of_mem _ (List.mem_cons_of_mem _ (List.mem_cons_of_mem _ (List.mem_cons_self ..))))
  have hw0 : 0 ≤ w := hp _ (List.mem_cons_of_mem _ (List.mem_cons_of_mem _ (List.mem_cons_of_mem _ (List.mem_cons_of_mem _ (List.mem_cons_self ..)))))
  have hw1 : w < 4611686018427387904 := hp _ (List.mem_cons_of_mem _ (List.mem_cons_of_mem _ (List.mem_cons_of_mem _ (List.mem_cons_of_mem _ (List.mem_cons_of_mem _ (List.mem_cons_self ..))))))
  clear hp
  subst hFT
  have hlp := jda_lp w S kk hu hat he hw0 hw1
  have hw0n : ¬ w < 0 := by omega
  refine ⟨2000, _, _, _, jd1_1 .., (ob_cons rfl (ob_cons rfl (ob_cons rfl (ob_cons rfl (ob_cons (Nat.le_refl _) (ob_cons (.inl ⟨rfl, rfl⟩) (ob_cons rfl (ob_cons rfl (ob_cons rfl (ob_cons rfl (ob_cons rfl (ob_cons rfl (ob_cons rfl (ob_cons rfl (ob_cons (fun _ => rfl) (ob_cons ?_ (ob_cons ?_ ob_nil)))))))))))))))))⟩
  · with_reducible assumption
  · exact decide_eq_false hw0n
theorem jd2_1 (w : Int) (S : MS) (kk : Nat) : callB ETf 2000 29 [AV.ptr 1 0 0, AV.sym IntKind.i64 w] (jd2H w S kk (tabF tab)) (jd2R w S kk (tabF tab)) [] [Hint.b false, Hint.lp [0, 1, 4, 5, 6, 7, 8] Ex.ret (jdbX w S kk kk).tmps (jdbX w S kk kk).hp.heap 4 [3, 1, 2]] =
 some ([(-1 : Int) = -1,
 (jdIt S w (kk + 1)).o.e = (jdIt S w (kk + 1)).o.e,
 Int.ofNat kk + 1 = Int.ofNat kk + 1,
 true = true,
 (1 : Nat) ≤ (1 : Nat),
 tabF tab = tabF tab ∧ plainSh (List.map kindOfV tab) = true ∨ ∀ (i : Nat), i < 1 → rowOb (List.map kindOfV tab) 0 (tabF tab i) (tabF tab i),
 (jdIt S w (kk + 1)).S.st = (jdIt S w (kk + 1)).S.st,
 (jdIt S w (kk + 1)).S.L.c = (jdIt S w (kk + 1)).S.L.c,
 (jdIt S w (kk + 1)).S.L.k = (jdIt S w (kk + 1)).S.L.k,
 (jdIt S w (kk + 1)).S.L.a = (jdIt S w (kk + 1)).S.L.a,
 (jdIt S w (kk + 1)).S.L.f = (jdIt S w (kk + 1)).S.L.f,
 (jdIt S w (kk + 1)).S.L.w = (jdIt S w (kk + 1)).S.L.w,
 (jdIt S w (kk + 1)).S.L.i = (jdIt S w (kk + 1)).S.L.i,
 (jdIt S w (kk + 1)).S.L.d = (jdIt S w (kk + 1)).S.L.d,
 ∀ (k : List Int), (jdIt S w (kk + 1)).S.M k = (jdIt S w (kk + 1)).S.M k,
 jdbLP w S kk,
 decide (w < 0) = false]) := by kernel_rfl
theorem jd2_loc (w : Int) (S : MS) (kk : Nat) (FT : Nat → Nat → AV) : LocOk Tryd.prog 29 [.ptr 1 0 0, .sym .i64 w] (jd2H w S kk FT) (jd2R w S kk FT) := by
  refine loc_of_call ETf_ok (fun hp => ?_)
  have hFT : FT = tabF tab := hp _ (List.mem_cons_self ..)
  have hu : U64 S := hp _ (List.mem_cons_of_mem _ (List.mem_cons_self ..))
  have hat : JdAt S w (kk + 1) := hp _ (List.mem_cons_of_mem _ (List.mem_cons_of_mem _ (List.mem_cons_self ..)))
  have he : ¬ (jdIt S w (kk + 1)).o.e = 0 := hp _ (List.mem_cons_of_mem _ (List.mem_cons_of_mem _ (List.mem_cons_of_mem _ (List.mem_cons_self ..))))
  have hw0 : 0 ≤ w := hp _ (List.mem_cons_of_mem _ (List.mem_cons_of_mem _ (List.mem_cons_of_mem _ (List.mem_cons_of_mem _ (List.mem_cons_self ..)))))
  have hw1 : w < 4611686018427387904 := hp _ (List.mem_cons_of_mem _ (List.mem_cons_of_mem _ (List.mem_cons_of_mem _ (List.mem_cons_of_mem _ (List.mem_cons_of_mem _ (List.mem_cons_self ..))))))
  clear hp
  subst hFT
  have hlp := jdb_lp w S kk hu hat he
  have hw0n : ¬ w < 0 := by omega
  refine ⟨2000, _, _, _, jd2_1 .., (ob_cons rfl (ob_cons rfl (ob_cons rfl (ob_cons rfl (ob_cons (Nat.le_refl _) (ob_cons (.inl ⟨rfl, rfl⟩) (ob_cons rfl (ob_cons rfl (ob_cons rfl (ob_cons rfl (ob_cons rfl (ob_cons rfl (ob_cons rfl (ob_cons rfl (ob_cons (fun _ => rfl) (ob_cons ?_ (ob_cons ?_ ob_nil)))))))))))))))))⟩
  · with_reducible assumption
  · exact decide_eq_false hw0n
theorem ld1_1 (w : Int) (S : MS) (kk : Nat) : callB ETf 2000 30 [AV.ptr 1 0 0, AV.sym IntKind.i64 w] (ld1H w S kk (tabF tab)) (ld1R w S kk (tabF tab)) [] [Hint.b false, Hint.b false, Hint.lp [0, 1, 4, 5, 6, 7] Ex.ret (ldcX w S kk kk).tmps (ldcX w S kk kk).hp.heap 4 [1, 2]] =
 some ([(ldIt S w (kk + 1)).o.e = (ldIt S w (kk + 1)).o.e,
 Int.ofNat kk + 1 = Int.ofNat kk + 1,
 true = true,
 (1 : Nat) ≤ (1 : Nat),
 tabF tab = tabF tab ∧ plainSh (List.map kindOfV tab) = true ∨ ∀ (i : Nat), i < 1 → rowOb (List.map kindOfV tab) 0 (tabF tab i) (tabF tab i),
 (ldIt S w (kk + 1)).S.st = (ldIt S w (kk + 1)).S.st,
 (ldIt S w (kk + 1)).S.L.c = (ldIt S w (kk + 1)).S.L.c,
 (ldIt S w (kk + 1)).S.L.k = (ldIt S w (kk + 1)).S.L.k,
 (ldIt S w (kk + 1)).S.L.a = (ldIt S w (kk + 1)).S.L.a,
 (ldIt S w (kk + 1)).S.L.f = (ldIt S w (kk + 1)).S.L.f,
 (ldIt S w (kk + 1)).S.L.w = (ldIt S w (kk + 1)).S.L.w,
 (ldIt S w (kk + 1)).S.L.i = (ldIt S w (kk + 1)).S.L.i,
 (ldIt S w (kk + 1)).S.L.d = (ldIt S w (kk + 1)).S.L.d,
 ∀ (k : List Int), (ldIt S w (kk + 1)).S.M k = (ldIt S w (kk + 1)).S.M k,
 ldcLP w S kk,
 decide (w ≥ 16) = false,
 decide (w < 0) = false]) := by kernel_rfl
theorem ld1_loc (w : Int) (S : MS) (kk : Nat) (FT : Nat → Nat → AV) : LocOk Tryd.prog 30 [.ptr 1 0 0, .sym .i64 w] (ld1H w S kk FT) (ld1R w S kk FT) := by
  refine loc_of_call ETf_ok (fun hp => ?_)
  have hFT : FT = tabF tab := hp _ (List.mem_cons_self ..)
  have hu : U64 S := hp _ (List.mem_cons_of_mem _ (List.mem_cons_self ..))
  have hat : LdAt S w (kk + 1) := hp _ (List.mem_cons_of_mem _ (List.mem_cons_of_mem _ (List.mem_cons_self ..)))
  have hw0 : 0 ≤ w := hp _ (List.mem_cons_of_mem _ (List.mem_cons_of_mem _ (List.mem_cons_of_mem _ (List.mem_cons_self ..))))
  have hw1 : w < 16 := hp _ (List.mem_cons_of_mem _ (List.mem_cons_of_mem _ (List.mem_cons_of_mem _ (List.mem_cons_of_mem _ (List.mem_cons_self ..)))))
  clear hp
  subst hFT
  have hlp := ldc_lp w S kk hu hat
  have hw0n : ¬ w < 0 := by omega
  have hw1n : ¬ w ≥ 16 := by omega
  refine ⟨2000, _, _, _, ld1_1 .., (ob_cons rfl (ob_cons rfl (ob_cons rfl (ob_cons (Nat.le_refl _) (ob_cons (.inl ⟨rfl, rfl⟩) (ob_cons rfl (ob_cons rfl (ob_cons rfl (ob_cons rfl (ob_cons rfl (ob_cons rfl (ob_cons rfl (ob_cons rfl (ob_cons (fun _ => rfl) (ob_cons ?_ (ob_cons ?_ (ob_cons ?_ ob_nil)))))))))))))))))⟩
  · with_reducible assumption
  · exact decide_eq_false hw1n
  · exact decide_eq_false hw0n
noncomputable def jddR (w : Int) (S : MS) (FT : Nat → Nat → AV) : LR := ⟨2, .tup [.sym .i64 (jdG S w), .sym .i64 (jdE S w), .sym .i64 (Int.ofNat (jdK S w))], [(gnm 0, .arr tab.length (tab.map kindOfV) true 1 FT), (1, .cells 9 (.map 2 :: lsL (jdY S w).st (jdY S w).L)), (2, .map 115 (jdY S w).M)], 0, [1, 2], [FT = tabF tab, JdOk S w]⟩
theorem jdd_loc (w : Int) (S : MS) (FT : Nat → Nat → AV) : LocOk Tryd.prog 29 [.ptr 1 0 0, .sym .i64 w] [(gnm 0, .arr tab.length (tab.map kindOfV) true 1 FT), (1, .cells 9 (.map 2 :: lsL S.st S.L)), (2, .map 115 S.M)] (jddR w S FT) := by
  unfold jddR
  intro ρ xw hp hr hf hg xs hx
  have hFT : FT = tabF tab := hp _ (List.mem_cons_self ..)
  have hm : JdOk S w := hp _ (List.mem_cons_of_mem _ (List.mem_cons_self ..))
  obtain ⟨u, w0, w1, hat⟩ := hm
  obtain ⟨kk, hk⟩ : ∃ kk, jdN0 S w = kk + 1 := ⟨jdN0 S w - 1, by have := hat.1; omega⟩
  rw [hk] at hat
  by_cases he : (jdIt S w (kk + 1)).o.e = 0
  · have e1 : jdG S w = (jdIt S w (kk + 1)).o.th := by rw [jdG_eq, hk, if_pos he]
    have e2 : jdE S w = 0 := by rw [jdE_eq, hk, he]
    rw [e1, e2, jdY_eq, jdK_eq, hk, show Int.ofNat (kk + 1) = Int.ofNat kk + 1 from rfl]
    exact loc_symR (jd1_loc w S kk FT) ρ xw (ob_cons hFT (ob_cons u (ob_cons hat (ob_cons he (ob_cons w0 (ob_cons w1 ob_nil)))))) hr hf hg xs hx
  · have e1 : jdG S w = -1 := by rw [jdG_eq, hk, if_neg he]
    rw [e1, jdE_eq, jdY_eq, jdK_eq, hk, show Int.ofNat (kk + 1) = Int.ofNat kk + 1 from rfl]
    exact loc_symR (jd2_loc w S kk FT) ρ xw (ob_cons hFT (ob_cons u (ob_cons hat (ob_cons he (ob_cons w0 (ob_cons w1 ob_nil)))))) hr hf hg xs hx
noncomputable def jddSpec : LSpec := fun la lh => match la, lh with
  | [.ptr z1 z2 z3, .sym .i64 w], [(zt, .arr nt sht rot lent FT), (z4, .cells z5 [.map z6, .sym .i64 st, .sym .u8 c0, .sym .u8 k0, .sym .i64 a0, .sym .i64 f0, .sym .u64 w0, .sym .u64 i0, .symb d0]), (z7, .map z8 M)] =>
    match (Nat.beq zt (gnm 0) && (Nat.beq nt tab.length && (shBeq sht (tab.map kindOfV) && (rot && Nat.beq lent 1)))) && (Nat.beq z1 1 && (Nat.beq z2 0 && (Nat.beq z3 0 && (Nat.beq z4 1 && (Nat.beq z5 9 && (Nat.beq z6 2 && (Nat.beq z7 2 && (Nat.beq z8 115)))))))) with
    | true => some (jddR w ⟨M, st, ⟨c0, k0, a0, f0, w0, i0, d0⟩⟩ FT)
    | false => none
  | _, _ => none
theorem jddSpec_ok (la : List AV) (lh : List (Nat × AO)) (R : LR) (h : jddSpec la lh = some R) : LocOk Tryd.prog 29 la lh R := by
  unfold jddSpec at h
  split at h
  · rename_i z1 z2 z3 w zt nt sht rot lent FT z4 z5 z6 st c0 k0 a0 f0 w0 i0 d0 z7 z8 M
    split at h
    · rename_i hb
      simp only [Bool.and_eq_true] at hb
      obtain ⟨⟨t1, t2, t3, t4, t5⟩, e1, e2, e3, e4, e5, e6, e7, e8⟩ := hb
      have t1 := Nat.eq_of_beq_eq_true t1; subst t1
      have t2 := Nat.eq_of_beq_eq_true t2; subst t2
      have t3 := shBeq_eq t3; subst t3
      subst t4
      have t5 := Nat.eq_of_beq_eq_true t5; subst t5
      have e1 := Nat.eq_of_beq_eq_true e1; subst e1
      have e2 := Nat.eq_of_beq_eq_true e2; subst e2
      have e3 := Nat.eq_of_beq_eq_true e3; subst e3
      have e4 := Nat.eq_of_beq_eq_true e4; subst e4
      have e5 := Nat.eq_of_beq_eq_true e5; subst e5
      have e6 := Nat.eq_of_beq_eq_true e6; subst e6
      have e7 := Nat.eq_of_beq_eq_true e7; subst e7
      have e8 := Nat.eq_of_beq_eq_true e8; subst e8
      cases h
      exact jdd_loc w ⟨M, st, ⟨c0, k0, a0, f0, w0, i0, d0⟩⟩ FT
    · cases h
  · cases h
noncomputable def lddR (w : Int) (S : MS) (FT : Nat → Nat → AV) : LR := ⟨2, .tup [.sym .i64 (ldE S w), .sym .i64 (Int.ofNat (ldK S w))], [(gnm 0, .arr tab.length (tab.map kindOfV) true 1 FT), (1, .cells 9 (.map 2 :: lsL (ldY S w).st (ldY S w).L)), (2, .map 115 (ldY S w).M)], 0, [1, 2], [FT = tabF tab, LdOk S w]⟩
theorem ldd_loc (w : Int) (S : MS) (FT : Nat → Nat → AV) : LocOk Tryd.prog 30 [.ptr 1 0 0, .sym .i64 w] [(gnm 0, .arr tab.length (tab.map kindOfV) true 1 FT), (1, .cells 9 (.map 2 :: lsL S.st S.L)), (2, .map 115 S.M)] (lddR w S FT) := by
  unfold lddR
  intro ρ xw hp hr hf hg xs hx
  have hFT : FT = tabF tab := hp _ (List.mem_cons_self ..)
  have hm : LdOk S w := hp _ (List.mem_cons_of_mem _ (List.mem_cons_self ..))
  obtain ⟨u, w0, w1, hat⟩ := hm
  obtain ⟨kk, hk⟩ : ∃ kk, ldN0 S w = kk + 1 := ⟨ldN0 S w - 1, by have := hat.1; omega⟩
  rw [hk] at hat
  rw [ldE_eq, ldY_eq, ldK_eq, hk, show Int.ofNat (kk + 1) = Int.ofNat kk + 1 from rfl]
  exact loc_symR (ld1_loc w S kk FT) ρ xw (ob_cons hFT (ob_cons u (ob_cons hat (ob_cons w0 (ob_cons w1 ob_nil))))) hr hf hg xs hx
noncomputable def lddSpec : LSpec := fun la lh => match la, lh with
  | [.ptr z1 z2 z3, .sym .i64 w], [(zt, .arr nt sht rot lent FT), (z4, .cells z5 [.map z6, .sym .i64 st, .sym .u8 c0, .sym .u8 k0, .sym .i64 a0, .sym .i64 f0, .sym .u64 w0, .sym .u64 i0, .symb d0]), (z7, .map z8 M)] =>
    match (Nat.beq zt (gnm 0) && (Nat.beq nt tab.length && (shBeq sht (tab.map kindOfV) && (rot && Nat.beq lent 1)))) && (Nat.beq z1 1 && (Nat.beq z2 0 && (Nat.beq z3 0 && (Nat.beq z4 1 && (Nat.beq z5 9 && (Nat.beq z6 2 && (Nat.beq z7 2 && (Nat.beq z8 115)))))))) with
    | true => some (lddR w ⟨M, st, ⟨c0, k0, a0, f0, w0, i0, d0⟩⟩ FT)
    | false => none
  | _, _ => none
theorem lddSpec_ok (la : List AV) (lh : List (Nat × AO)) (R : LR) (h : lddSpec la lh = some R) : LocOk Tryd.prog 30 la lh R := by
  unfold lddSpec at h
  split at h
  · rename_i z1 z2 z3 w zt nt sht rot lent FT z4 z5 z6 st c0 k0 a0 f0 w0 i0 d0 z7 z8 M
    split at h
    · rename_i hb
      simp only [Bool.and_eq_true] at hb
      obtain ⟨⟨t1, t2, t3, t4, t5⟩, e1, e2, e3, e4, e5, e6, e7, e8⟩ := hb
      have t1 := Nat.eq_of_beq_eq_true t1; subst t1
      have t2 := Nat.eq_of_beq_eq_true t2; subst t2
      have t3 := shBeq_eq t3; subst t3
      subst t4
      have t5 := Nat.eq_of_beq_eq_true t5; subst t5
      have e1 := Nat.eq_of_beq_eq_true e1; subst e1
      have e2 := Nat.eq_of_beq_eq_true e2; subst e2
      have e3 := Nat.eq_of_beq_eq_true e3; subst e3
      have e4 := Nat.eq_of_beq_eq_true e4; subst e4
      have e5 := Nat.eq_of_beq_eq_true e5; subst e5
      have e6 := Nat.eq_of_beq_eq_true e6; subst e6
      have e7 := Nat.eq_of_beq_eq_true e7; subst e7
      have e8 := Nat.eq_of_beq_eq_true e8; subst e8
      cases h
      exact ldd_loc w ⟨M, st, ⟨c0, k0, a0, f0, w0, i0, d0⟩⟩ FT
    · cases h
  · cases h

end Go.Proofs.YtmndhjodbnojdaaDoor
