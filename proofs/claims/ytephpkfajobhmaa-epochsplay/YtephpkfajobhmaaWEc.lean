/-
  EpochsPlay: contracts.
-/
import Derived.Test.YtephpkfajobhmaaWEcDef
set_option linter.unusedSimpArgs false
set_option linter.unusedVariables false
namespace Go.Proofs.Ytephpkfajobhmaa
open Go.Ev
theorem ep0_loc (at_ e th k2 t2 ln ee b : Int) (mv : Bool) (S : MS) (n l : Nat) (g : Nat → Nat → AV) (s2 : Int) (L2 : LS) : LocOk Try.prog 65 [.agg [.ptr 1 0 0, .nilp, .nilp, .ptr 2 0 0], .agg [.ptr 3 0 0, .ptr 5 0 0]] (ep0H at_ e th k2 t2 ln ee b mv S n l g s2 L2) (ep0R at_ e th k2 t2 ln ee b mv S n l g s2 L2) := by
  intro ρ w hp hr hf hg xs hx
  have hl : n ≤ l := hp _ (List.mem_cons_self ..)
  have hm : n ≤ 100000 := hp _ (List.mem_cons_of_mem _ (List.mem_cons_self ..))
  have hb : Both S (mkR n g s2 L2) := hp _ (List.mem_cons_of_mem _ (List.mem_cons_of_mem _ (List.mem_cons_self ..)))
  have hu : ∀ k, 0 ≤ mget S.M k ∧ mget S.M k < 18446744073709551616 := hp _ (List.mem_cons_of_mem _ (List.mem_cons_of_mem _ (List.mem_cons_of_mem _ (List.mem_cons_self ..))))
  have hk : k2 = 0 := hp _ (List.mem_cons_of_mem _ (List.mem_cons_of_mem _ (List.mem_cons_of_mem _ (List.mem_cons_of_mem _ (List.mem_cons_self ..)))))
  have he2 : e = ee := hp _ (List.mem_cons_of_mem _ (List.mem_cons_of_mem _ (List.mem_cons_of_mem _ (List.mem_cons_of_mem _ (List.mem_cons_of_mem _ (List.mem_cons_self ..))))))
  have hat : at_ = 0 ∨ at_ = 1 ∨ at_ = 4 := hp _ (List.mem_cons_of_mem _ (List.mem_cons_of_mem _ (List.mem_cons_of_mem _ (List.mem_cons_of_mem _ (List.mem_cons_of_mem _ (List.mem_cons_of_mem _ (List.mem_cons_self ..)))))))
  have hln : ln = ln0 at_ := hp _ (List.mem_cons_of_mem _ (List.mem_cons_of_mem _ (List.mem_cons_of_mem _ (List.mem_cons_of_mem _ (List.mem_cons_of_mem _ (List.mem_cons_of_mem _ (List.mem_cons_of_mem _ (List.mem_cons_self ..))))))))
  have ht : at_ ≠ 0 → t2 = th := hp _ (List.mem_cons_of_mem _ (List.mem_cons_of_mem _ (List.mem_cons_of_mem _ (List.mem_cons_of_mem _ (List.mem_cons_of_mem _ (List.mem_cons_of_mem _ (List.mem_cons_of_mem _ (List.mem_cons_of_mem _ (List.mem_cons_self ..)))))))))
  have he : 0 ≤ e ∧ e < 18446744073709551616 := hp _ (List.mem_cons_of_mem _ (List.mem_cons_of_mem _ (List.mem_cons_of_mem _ (List.mem_cons_of_mem _ (List.mem_cons_of_mem _ (List.mem_cons_of_mem _ (List.mem_cons_of_mem _ (List.mem_cons_of_mem _ (List.mem_cons_of_mem _ (List.mem_cons_self ..))))))))))
  subst hk; subst he2
  rcases hat with rfl | rfl | rfl
  · subst hln
    exact loc_symR (epe0_loc e th t2 b mv S n l g s2 L2) ρ w ((ob_cons hl (ob_cons hm (ob_cons hb (ob_cons hu ob_nil))))) hr hf hg xs hx
  · subst hln; obtain rfl := ht (by decide)
    exact loc_symR (epe1_loc e _ 0 b mv S n l g s2 L2) ρ w ((ob_cons hl (ob_cons hm (ob_cons hb (ob_cons hu ob_nil))))) hr hf hg xs hx
  · subst hln; obtain rfl := ht (by decide)
    exact loc_symR (epe4_loc e _ 0 b mv S n l g s2 L2) ρ w ((ob_cons hl (ob_cons hm (ob_cons hb (ob_cons hu (ob_cons he ob_nil)))))) hr hf hg xs hx
noncomputable def ep0Spec : LSpec := fun la lh => match la, lh with
  | [.agg [.ptr z1 z2 z3, .nilp, .nilp, .ptr z4 z5 z6], .agg [.ptr z7 z8 z9, .ptr z10 z11 z12]], [(z13, .cells z14 [.sym .i64 at_, .sym .u64 e, .sym .i64 th]), (z15, .cells z16 [.sym .i64 k2, .sym .i64 t2, .sym .i64 ln, .symb mv, .sym .u64 ee, .sym .u64 b]), (z17, .cells z18 [.map z19, .sym .i64 st, .sym .u8 c0, .sym .u8 k0, .sym .i64 a0, .sym .i64 f0, .sym .u64 w0, .sym .u64 i0, .symb d0]), (z20, .map z21 M), (z22, .cells z23 [.ss z24 z25 z26 n none, .sym .i64 st2, .sym .u8 c2, .sym .u8 q2, .sym .i64 a2, .sym .i64 f2, .sym .u64 w2, .sym .u64 i2, .symb d2]), (z27, .arr z28 z29 false l g)] =>
    match Nat.beq z1 1 && (Nat.beq z2 0 && (Nat.beq z3 0 && (Nat.beq z4 2 && (Nat.beq z5 0 && (Nat.beq z6 0 && (Nat.beq z7 3 && (Nat.beq z8 0 && (Nat.beq z9 0 && (Nat.beq z10 5 && (Nat.beq z11 0 && (Nat.beq z12 0 && (Nat.beq z13 1 && (Nat.beq z14 3 && (Nat.beq z15 2 && (Nat.beq z16 6 && (Nat.beq z17 3 && (Nat.beq z18 9 && (Nat.beq z19 4 && (Nat.beq z20 4 && (Nat.beq z21 26 && (Nat.beq z22 5 && (Nat.beq z23 9 && (Nat.beq z24 4 && (Nat.beq z25 6 && (Nat.beq z26 0 && (Nat.beq z27 6 && (Nat.beq z28 4 && (shBeq z29 wSh)))))))))))))))))))))))))))) with
    | true => some (ep0R at_ e th k2 t2 ln ee b mv ⟨M, st, ⟨c0, k0, a0, f0, w0, i0, d0⟩⟩ n l g st2 ⟨c2, q2, a2, f2, w2, i2, d2⟩)
    | false => none
  | _, _ => none
theorem ep0Spec_ok (la : List AV) (lh : List (Nat × AO)) (R : LR) (h : ep0Spec la lh = some R) : LocOk Try.prog 65 la lh R := by
  unfold ep0Spec at h
  split at h
  · rename_i z1 z2 z3 z4 z5 z6 z7 z8 z9 z10 z11 z12 z13 z14 at_ e th z15 z16 k2 t2 ln mv ee b z17 z18 z19 st c0 k0 a0 f0 w0 i0 d0 z20 z21 M z22 z23 z24 z25 z26 n st2 c2 q2 a2 f2 w2 i2 d2 z27 z28 z29 l g
    split at h
    · rename_i hb
      simp only [Bool.and_eq_true] at hb
      obtain ⟨e1, e2, e3, e4, e5, e6, e7, e8, e9, e10, e11, e12, e13, e14, e15, e16, e17, e18, e19, e20, e21, e22, e23, e24, e25, e26, e27, e28, e29⟩ := hb
      have e1 := Nat.eq_of_beq_eq_true e1; subst e1
      have e2 := Nat.eq_of_beq_eq_true e2; subst e2
      have e3 := Nat.eq_of_beq_eq_true e3; subst e3
      have e4 := Nat.eq_of_beq_eq_true e4; subst e4
      have e5 := Nat.eq_of_beq_eq_true e5; subst e5
      have e6 := Nat.eq_of_beq_eq_true e6; subst e6
      have e7 := Nat.eq_of_beq_eq_true e7; subst e7
      have e8 := Nat.eq_of_beq_eq_true e8; subst e8
      have e9 := Nat.eq_of_beq_eq_true e9; subst e9
      have e10 := Nat.eq_of_beq_eq_true e10; subst e10
      have e11 := Nat.eq_of_beq_eq_true e11; subst e11
      have e12 := Nat.eq_of_beq_eq_true e12; subst e12
      have e13 := Nat.eq_of_beq_eq_true e13; subst e13
      have e14 := Nat.eq_of_beq_eq_true e14; subst e14
      have e15 := Nat.eq_of_beq_eq_true e15; subst e15
      have e16 := Nat.eq_of_beq_eq_true e16; subst e16
      have e17 := Nat.eq_of_beq_eq_true e17; subst e17
      have e18 := Nat.eq_of_beq_eq_true e18; subst e18
      have e19 := Nat.eq_of_beq_eq_true e19; subst e19
      have e20 := Nat.eq_of_beq_eq_true e20; subst e20
      have e21 := Nat.eq_of_beq_eq_true e21; subst e21
      have e22 := Nat.eq_of_beq_eq_true e22; subst e22
      have e23 := Nat.eq_of_beq_eq_true e23; subst e23
      have e24 := Nat.eq_of_beq_eq_true e24; subst e24
      have e25 := Nat.eq_of_beq_eq_true e25; subst e25
      have e26 := Nat.eq_of_beq_eq_true e26; subst e26
      have e27 := Nat.eq_of_beq_eq_true e27; subst e27
      have e28 := Nat.eq_of_beq_eq_true e28; subst e28
      have e29 := shBeq_eq e29; subst e29
      cases h
      exact ep0_loc at_ e th k2 t2 ln ee b mv ⟨M, st, ⟨c0, k0, a0, f0, w0, i0, d0⟩⟩ n l g st2 ⟨c2, q2, a2, f2, w2, i2, d2⟩
    · cases h
  · cases h

theorem ep1_loc (at_ e th k2 t2 ln ee b : Int) (mv : Bool) (S : MS) (n l : Nat) (g : Nat → Nat → AV) (s2 : Int) (L2 : LS) : LocOk Try.prog 65 [.agg [.nilp, .ptr 1 0 0, .nilp, .ptr 2 0 0], .agg [.ptr 3 0 0, .ptr 5 0 0]] (ep1H at_ e th k2 t2 ln ee b mv S n l g s2 L2) (ep1R at_ e th k2 t2 ln ee b mv S n l g s2 L2) := by
  intro ρ w hp hr hf hg xs hx
  have hl : n ≤ l := hp _ (List.mem_cons_self ..)
  have hm : n ≤ 100000 := hp _ (List.mem_cons_of_mem _ (List.mem_cons_self ..))
  have hb : Both S (mkR n g s2 L2) := hp _ (List.mem_cons_of_mem _ (List.mem_cons_of_mem _ (List.mem_cons_self ..)))
  have hu : ∀ k, 0 ≤ mget S.M k ∧ mget S.M k < 18446744073709551616 := hp _ (List.mem_cons_of_mem _ (List.mem_cons_of_mem _ (List.mem_cons_of_mem _ (List.mem_cons_self ..))))
  have hk : k2 = 1 := hp _ (List.mem_cons_of_mem _ (List.mem_cons_of_mem _ (List.mem_cons_of_mem _ (List.mem_cons_of_mem _ (List.mem_cons_self ..)))))
  have he2 : e = ee := hp _ (List.mem_cons_of_mem _ (List.mem_cons_of_mem _ (List.mem_cons_of_mem _ (List.mem_cons_of_mem _ (List.mem_cons_of_mem _ (List.mem_cons_self ..))))))
  have hat : at_ = 0 ∨ at_ = 1 := hp _ (List.mem_cons_of_mem _ (List.mem_cons_of_mem _ (List.mem_cons_of_mem _ (List.mem_cons_of_mem _ (List.mem_cons_of_mem _ (List.mem_cons_of_mem _ (List.mem_cons_self ..)))))))
  have hln : ln = at_ := hp _ (List.mem_cons_of_mem _ (List.mem_cons_of_mem _ (List.mem_cons_of_mem _ (List.mem_cons_of_mem _ (List.mem_cons_of_mem _ (List.mem_cons_of_mem _ (List.mem_cons_of_mem _ (List.mem_cons_self ..))))))))
  have ht : at_ ≠ 0 → t2 = th := hp _ (List.mem_cons_of_mem _ (List.mem_cons_of_mem _ (List.mem_cons_of_mem _ (List.mem_cons_of_mem _ (List.mem_cons_of_mem _ (List.mem_cons_of_mem _ (List.mem_cons_of_mem _ (List.mem_cons_of_mem _ (List.mem_cons_self ..)))))))))
  subst hk; subst he2
  rcases hat with rfl | rfl
  · subst hln
    exact loc_symR (epx0_loc e th t2 b mv S n l g s2 L2) ρ w ((ob_cons hl (ob_cons hm (ob_cons hb (ob_cons hu ob_nil))))) hr hf hg xs hx
  · subst hln; obtain rfl := ht (by decide)
    exact loc_symR (epx1_loc e _ 0 b mv S n l g s2 L2) ρ w ((ob_cons hl (ob_cons hm (ob_cons hb (ob_cons hu ob_nil))))) hr hf hg xs hx
noncomputable def ep1Spec : LSpec := fun la lh => match la, lh with
  | [.agg [.nilp, .ptr z1 z2 z3, .nilp, .ptr z4 z5 z6], .agg [.ptr z7 z8 z9, .ptr z10 z11 z12]], [(z13, .cells z14 [.sym .i64 at_, .sym .u64 e, .sym .i64 th]), (z15, .cells z16 [.sym .i64 k2, .sym .i64 t2, .sym .i64 ln, .symb mv, .sym .u64 ee, .sym .u64 b]), (z17, .cells z18 [.map z19, .sym .i64 st, .sym .u8 c0, .sym .u8 k0, .sym .i64 a0, .sym .i64 f0, .sym .u64 w0, .sym .u64 i0, .symb d0]), (z20, .map z21 M), (z22, .cells z23 [.ss z24 z25 z26 n none, .sym .i64 st2, .sym .u8 c2, .sym .u8 q2, .sym .i64 a2, .sym .i64 f2, .sym .u64 w2, .sym .u64 i2, .symb d2]), (z27, .arr z28 z29 false l g)] =>
    match Nat.beq z1 1 && (Nat.beq z2 0 && (Nat.beq z3 0 && (Nat.beq z4 2 && (Nat.beq z5 0 && (Nat.beq z6 0 && (Nat.beq z7 3 && (Nat.beq z8 0 && (Nat.beq z9 0 && (Nat.beq z10 5 && (Nat.beq z11 0 && (Nat.beq z12 0 && (Nat.beq z13 1 && (Nat.beq z14 3 && (Nat.beq z15 2 && (Nat.beq z16 6 && (Nat.beq z17 3 && (Nat.beq z18 9 && (Nat.beq z19 4 && (Nat.beq z20 4 && (Nat.beq z21 26 && (Nat.beq z22 5 && (Nat.beq z23 9 && (Nat.beq z24 4 && (Nat.beq z25 6 && (Nat.beq z26 0 && (Nat.beq z27 6 && (Nat.beq z28 4 && (shBeq z29 wSh)))))))))))))))))))))))))))) with
    | true => some (ep1R at_ e th k2 t2 ln ee b mv ⟨M, st, ⟨c0, k0, a0, f0, w0, i0, d0⟩⟩ n l g st2 ⟨c2, q2, a2, f2, w2, i2, d2⟩)
    | false => none
  | _, _ => none
theorem ep1Spec_ok (la : List AV) (lh : List (Nat × AO)) (R : LR) (h : ep1Spec la lh = some R) : LocOk Try.prog 65 la lh R := by
  unfold ep1Spec at h
  split at h
  · rename_i z1 z2 z3 z4 z5 z6 z7 z8 z9 z10 z11 z12 z13 z14 at_ e th z15 z16 k2 t2 ln mv ee b z17 z18 z19 st c0 k0 a0 f0 w0 i0 d0 z20 z21 M z22 z23 z24 z25 z26 n st2 c2 q2 a2 f2 w2 i2 d2 z27 z28 z29 l g
    split at h
    · rename_i hb
      simp only [Bool.and_eq_true] at hb
      obtain ⟨e1, e2, e3, e4, e5, e6, e7, e8, e9, e10, e11, e12, e13, e14, e15, e16, e17, e18, e19, e20, e21, e22, e23, e24, e25, e26, e27, e28, e29⟩ := hb
      have e1 := Nat.eq_of_beq_eq_true e1; subst e1
      have e2 := Nat.eq_of_beq_eq_true e2; subst e2
      have e3 := Nat.eq_of_beq_eq_true e3; subst e3
      have e4 := Nat.eq_of_beq_eq_true e4; subst e4
      have e5 := Nat.eq_of_beq_eq_true e5; subst e5
      have e6 := Nat.eq_of_beq_eq_true e6; subst e6
      have e7 := Nat.eq_of_beq_eq_true e7; subst e7
      have e8 := Nat.eq_of_beq_eq_true e8; subst e8
      have e9 := Nat.eq_of_beq_eq_true e9; subst e9
      have e10 := Nat.eq_of_beq_eq_true e10; subst e10
      have e11 := Nat.eq_of_beq_eq_true e11; subst e11
      have e12 := Nat.eq_of_beq_eq_true e12; subst e12
      have e13 := Nat.eq_of_beq_eq_true e13; subst e13
      have e14 := Nat.eq_of_beq_eq_true e14; subst e14
      have e15 := Nat.eq_of_beq_eq_true e15; subst e15
      have e16 := Nat.eq_of_beq_eq_true e16; subst e16
      have e17 := Nat.eq_of_beq_eq_true e17; subst e17
      have e18 := Nat.eq_of_beq_eq_true e18; subst e18
      have e19 := Nat.eq_of_beq_eq_true e19; subst e19
      have e20 := Nat.eq_of_beq_eq_true e20; subst e20
      have e21 := Nat.eq_of_beq_eq_true e21; subst e21
      have e22 := Nat.eq_of_beq_eq_true e22; subst e22
      have e23 := Nat.eq_of_beq_eq_true e23; subst e23
      have e24 := Nat.eq_of_beq_eq_true e24; subst e24
      have e25 := Nat.eq_of_beq_eq_true e25; subst e25
      have e26 := Nat.eq_of_beq_eq_true e26; subst e26
      have e27 := Nat.eq_of_beq_eq_true e27; subst e27
      have e28 := Nat.eq_of_beq_eq_true e28; subst e28
      have e29 := shBeq_eq e29; subst e29
      cases h
      exact ep1_loc at_ e th k2 t2 ln ee b mv ⟨M, st, ⟨c0, k0, a0, f0, w0, i0, d0⟩⟩ n l g st2 ⟨c2, q2, a2, f2, w2, i2, d2⟩
    · cases h
  · cases h

theorem ep2_loc (at_ e th k2 t2 ln ee b al : Int) (mv mw : Bool) (S : MS) (n l : Nat) (g : Nat → Nat → AV) (s2 : Int) (L2 : LS) : LocOk Try.prog 65 [.agg [.nilp, .nilp, .ptr 1 0 0, .ptr 2 0 0], .agg [.ptr 3 0 0, .ptr 5 0 0]] (ep2H at_ e th k2 t2 ln ee b al mv mw S n l g s2 L2) (ep2R at_ e th k2 t2 ln ee b al mv mw S n l g s2 L2) := by
  intro ρ w hp hr hf hg xs hx
  have hl : n ≤ l := hp _ (List.mem_cons_self ..)
  have hm : n ≤ 100000 := hp _ (List.mem_cons_of_mem _ (List.mem_cons_self ..))
  have hb : Both S (mkR n g s2 L2) := hp _ (List.mem_cons_of_mem _ (List.mem_cons_of_mem _ (List.mem_cons_self ..)))
  have hu : ∀ k, 0 ≤ mget S.M k ∧ mget S.M k < 18446744073709551616 := hp _ (List.mem_cons_of_mem _ (List.mem_cons_of_mem _ (List.mem_cons_of_mem _ (List.mem_cons_self ..))))
  have hk : k2 = 2 := hp _ (List.mem_cons_of_mem _ (List.mem_cons_of_mem _ (List.mem_cons_of_mem _ (List.mem_cons_of_mem _ (List.mem_cons_self ..)))))
  have he2 : e = ee := hp _ (List.mem_cons_of_mem _ (List.mem_cons_of_mem _ (List.mem_cons_of_mem _ (List.mem_cons_of_mem _ (List.mem_cons_of_mem _ (List.mem_cons_self ..))))))
  have h1 : at_ = 0 ∨ at_ = 1 ∨ at_ = 2 ∨ at_ = 3 ∨ at_ = 4 := hp _ (List.mem_cons_of_mem _ (List.mem_cons_of_mem _ (List.mem_cons_of_mem _ (List.mem_cons_of_mem _ (List.mem_cons_of_mem _ (List.mem_cons_of_mem _ (List.mem_cons_self ..)))))))
  have hln : at_ = ln := hp _ (List.mem_cons_of_mem _ (List.mem_cons_of_mem _ (List.mem_cons_of_mem _ (List.mem_cons_of_mem _ (List.mem_cons_of_mem _ (List.mem_cons_of_mem _ (List.mem_cons_of_mem _ (List.mem_cons_self ..))))))))
  have ht : th = t2 := hp _ (List.mem_cons_of_mem _ (List.mem_cons_of_mem _ (List.mem_cons_of_mem _ (List.mem_cons_of_mem _ (List.mem_cons_of_mem _ (List.mem_cons_of_mem _ (List.mem_cons_of_mem _ (List.mem_cons_of_mem _ (List.mem_cons_self ..)))))))))
  have ha : al = 4 * b := hp _ (List.mem_cons_of_mem _ (List.mem_cons_of_mem _ (List.mem_cons_of_mem _ (List.mem_cons_of_mem _ (List.mem_cons_of_mem _ (List.mem_cons_of_mem _ (List.mem_cons_of_mem _ (List.mem_cons_of_mem _ (List.mem_cons_of_mem _ (List.mem_cons_self ..))))))))))
  have hv : mv = mw := hp _ (List.mem_cons_of_mem _ (List.mem_cons_of_mem _ (List.mem_cons_of_mem _ (List.mem_cons_of_mem _ (List.mem_cons_of_mem _ (List.mem_cons_of_mem _ (List.mem_cons_of_mem _ (List.mem_cons_of_mem _ (List.mem_cons_of_mem _ (List.mem_cons_of_mem _ (List.mem_cons_self ..)))))))))))
  have h2 : at_ = 2 → th = 0 := hp _ (List.mem_cons_of_mem _ (List.mem_cons_of_mem _ (List.mem_cons_of_mem _ (List.mem_cons_of_mem _ (List.mem_cons_of_mem _ (List.mem_cons_of_mem _ (List.mem_cons_of_mem _ (List.mem_cons_of_mem _ (List.mem_cons_of_mem _ (List.mem_cons_of_mem _ (List.mem_cons_of_mem _ (List.mem_cons_self ..))))))))))))
  have h3 : at_ = 3 → 0 ≤ th ∧ th < 4 * b ∧ b ≤ 4 := hp _ (List.mem_cons_of_mem _ (List.mem_cons_of_mem _ (List.mem_cons_of_mem _ (List.mem_cons_of_mem _ (List.mem_cons_of_mem _ (List.mem_cons_of_mem _ (List.mem_cons_of_mem _ (List.mem_cons_of_mem _ (List.mem_cons_of_mem _ (List.mem_cons_of_mem _ (List.mem_cons_of_mem _ (List.mem_cons_of_mem _ (List.mem_cons_self ..)))))))))))))
  have he : 0 ≤ e ∧ e < 18446744073709551616 := hp _ (List.mem_cons_of_mem _ (List.mem_cons_of_mem _ (List.mem_cons_of_mem _ (List.mem_cons_of_mem _ (List.mem_cons_of_mem _ (List.mem_cons_of_mem _ (List.mem_cons_of_mem _ (List.mem_cons_of_mem _ (List.mem_cons_of_mem _ (List.mem_cons_of_mem _ (List.mem_cons_of_mem _ (List.mem_cons_of_mem _ (List.mem_cons_of_mem _ (List.mem_cons_self ..))))))))))))))
  subst hk; subst he2; subst hln; subst ha; subst hv; subst ht
  rcases h1 with rfl | rfl | rfl | rfl | rfl
  ·
    exact loc_symR (epa0_loc e _ 0 b _ S n l g s2 L2) ρ w ((ob_cons hl (ob_cons hm (ob_cons hb (ob_cons hu ob_nil))))) hr hf hg xs hx
  ·
    exact loc_symR (epa1_loc e _ 0 b _ S n l g s2 L2) ρ w ((ob_cons hl (ob_cons hm (ob_cons hb (ob_cons hu ob_nil))))) hr hf hg xs hx
  · obtain rfl := h2 rfl
    have hw := hu (key 5 0 0)
    rcases Int.lt_or_le 4 (mget S.M (key 5 0 0)) with q | q
    · have eb : eB2 S 2 b = 4 := if_pos q
      have ea : eA2 S 2 e 0 b = 3 := by show (if min4 (mget S.M (key 5 0 0)) = 0 then (4 : Int) else 3) = 3; rw [show min4 (mget S.M (key 5 0 0)) = 4 from if_pos q]; rfl
      exact loc_fit (loc_symR (epa2a_loc e 0 0 b _ S n l g s2 L2)) ((ob_cons hl (ob_cons hm (ob_cons hb (ob_cons hu (ob_cons q ob_nil)))))) (by unfold ep2R; rw [ea, eb]; rfl) ρ w hp hr hf hg xs hx
    · have m4 : min4 (mget S.M (key 5 0 0)) = mget S.M (key 5 0 0) := if_neg (by omega)
      rcases Int.lt_or_le 0 (mget S.M (key 5 0 0)) with z | z
      · have eb : eB2 S 2 b = mget S.M (key 5 0 0) := m4
        have ea : eA2 S 2 e 0 b = 3 := by show (if min4 (mget S.M (key 5 0 0)) = 0 then (4 : Int) else 3) = 3; rw [m4, if_neg (by omega)]
        exact loc_fit (loc_symR (epa2c_loc e 0 0 b _ S n l g s2 L2)) ((ob_cons hl (ob_cons hm (ob_cons hb (ob_cons hu (ob_cons ⟨z, q⟩ ob_nil)))))) (by unfold ep2R; rw [ea, eb]; rfl) ρ w hp hr hf hg xs hx
      · have z0 : mget S.M (key 5 0 0) = 0 := by omega
        have eb : eB2 S 2 b = 0 := by rw [show eB2 S 2 b = min4 (mget S.M (key 5 0 0)) from rfl, m4, z0]
        have ea : eA2 S 2 e 0 b = 4 := by show (if min4 (mget S.M (key 5 0 0)) = 0 then (4 : Int) else 3) = 4; rw [m4, if_pos z0]
        exact loc_fit (loc_symR (epa2b_loc e 0 0 b _ S n l g s2 L2)) ((ob_cons hl (ob_cons hm (ob_cons hb (ob_cons hu (ob_cons z0 ob_nil)))))) (by unfold ep2R; rw [ea, eb]; rfl) ρ w hp hr hf hg xs hx
  · have h30 := h3 rfl
    have hw := hu (key 8 th 3)
    rcases (show (mget S.M (key 8 th 3)) % 2 = 0 ∨ (mget S.M (key 8 th 3)) % 2 = 1 by omega) with o | o
    · rcases Int.lt_or_eq_of_le (show th + 1 ≤ 4 * b by omega) with z | z
      · have ea : eA2 S 3 e th b = 3 := by show lkE S e th b = 3; unfold lkE; rw [if_neg (by omega), if_neg (by omega)]
        exact loc_fit (loc_symR (epa3e_loc e th 0 b mv S n l g s2 L2)) ((ob_cons hl (ob_cons hm (ob_cons hb (ob_cons hu (ob_cons he (ob_cons h30 (ob_cons ⟨o, z⟩ ob_nil)))))))) (by unfold ep2R; rw [ea]; rfl) ρ w hp hr hf hg xs hx
      · have ea : eA2 S 3 e th b = 4 := by show lkE S e th b = 4; unfold lkE; rw [if_neg (by omega), if_pos z]
        exact loc_fit (loc_symR (epa3d_loc e th 0 b mv S n l g s2 L2)) ((ob_cons hl (ob_cons hm (ob_cons hb (ob_cons hu (ob_cons he (ob_cons h30 (ob_cons ⟨o, z⟩ ob_nil)))))))) (by unfold ep2R; rw [ea]; rfl) ρ w hp hr hf hg xs hx
    · by_cases i : mget S.M (key 8 th 3) = inE e
      · rcases Int.lt_or_eq_of_le (show th + 1 ≤ 4 * b by omega) with z | z
        · have ea : eA2 S 3 e th b = 3 := by show lkE S e th b = 3; unfold lkE; rw [if_neg (fun h => h.2 i), if_neg (by omega)]
          exact loc_fit (loc_symR (epa3c_loc e th 0 b mv S n l g s2 L2)) ((ob_cons hl (ob_cons hm (ob_cons hb (ob_cons hu (ob_cons he (ob_cons h30 (ob_cons ⟨o, i, z⟩ ob_nil)))))))) (by unfold ep2R; rw [ea]; rfl) ρ w hp hr hf hg xs hx
        · have ea : eA2 S 3 e th b = 4 := by show lkE S e th b = 4; unfold lkE; rw [if_neg (fun h => h.2 i), if_pos z]
          exact loc_fit (loc_symR (epa3b_loc e th 0 b mv S n l g s2 L2)) ((ob_cons hl (ob_cons hm (ob_cons hb (ob_cons hu (ob_cons he (ob_cons h30 (ob_cons ⟨o, i, z⟩ ob_nil)))))))) (by unfold ep2R; rw [ea]; rfl) ρ w hp hr hf hg xs hx
      · have ea : eA2 S 3 e th b = 0 := by show lkE S e th b = 0; unfold lkE; rw [if_pos ⟨o, i⟩]
        exact loc_fit (loc_symR (epa3a_loc e th 0 b mv S n l g s2 L2)) ((ob_cons hl (ob_cons hm (ob_cons hb (ob_cons hu (ob_cons he (ob_cons h30 (ob_cons ⟨o, i⟩ ob_nil)))))))) (by unfold ep2R; rw [ea]; rfl) ρ w hp hr hf hg xs hx
  ·
    exact loc_symR (epa4_loc e _ 0 b _ S n l g s2 L2) ρ w ((ob_cons hl (ob_cons hm (ob_cons hb (ob_cons hu ob_nil))))) hr hf hg xs hx
noncomputable def ep2Spec : LSpec := fun la lh => match la, lh with
  | [.agg [.nilp, .nilp, .ptr z1 z2 z3, .ptr z4 z5 z6], .agg [.ptr z7 z8 z9, .ptr z10 z11 z12]], [(z13, .cells z14 [.sym .i64 at_, .sym .u64 e, .sym .i64 th, .sym .i64 al, .symb mw]), (z15, .cells z16 [.sym .i64 k2, .sym .i64 t2, .sym .i64 ln, .symb mv, .sym .u64 ee, .sym .u64 b]), (z17, .cells z18 [.map z19, .sym .i64 st, .sym .u8 c0, .sym .u8 k0, .sym .i64 a0, .sym .i64 f0, .sym .u64 w0, .sym .u64 i0, .symb d0]), (z20, .map z21 M), (z22, .cells z23 [.ss z24 z25 z26 n none, .sym .i64 st2, .sym .u8 c2, .sym .u8 q2, .sym .i64 a2, .sym .i64 f2, .sym .u64 w2, .sym .u64 i2, .symb d2]), (z27, .arr z28 z29 false l g)] =>
    match Nat.beq z1 1 && (Nat.beq z2 0 && (Nat.beq z3 0 && (Nat.beq z4 2 && (Nat.beq z5 0 && (Nat.beq z6 0 && (Nat.beq z7 3 && (Nat.beq z8 0 && (Nat.beq z9 0 && (Nat.beq z10 5 && (Nat.beq z11 0 && (Nat.beq z12 0 && (Nat.beq z13 1 && (Nat.beq z14 5 && (Nat.beq z15 2 && (Nat.beq z16 6 && (Nat.beq z17 3 && (Nat.beq z18 9 && (Nat.beq z19 4 && (Nat.beq z20 4 && (Nat.beq z21 26 && (Nat.beq z22 5 && (Nat.beq z23 9 && (Nat.beq z24 4 && (Nat.beq z25 6 && (Nat.beq z26 0 && (Nat.beq z27 6 && (Nat.beq z28 4 && (shBeq z29 wSh)))))))))))))))))))))))))))) with
    | true => some (ep2R at_ e th k2 t2 ln ee b al mv mw ⟨M, st, ⟨c0, k0, a0, f0, w0, i0, d0⟩⟩ n l g st2 ⟨c2, q2, a2, f2, w2, i2, d2⟩)
    | false => none
  | _, _ => none
theorem ep2Spec_ok (la : List AV) (lh : List (Nat × AO)) (R : LR) (h : ep2Spec la lh = some R) : LocOk Try.prog 65 la lh R := by
  unfold ep2Spec at h
  split at h
  · rename_i z1 z2 z3 z4 z5 z6 z7 z8 z9 z10 z11 z12 z13 z14 at_ e th al mw z15 z16 k2 t2 ln mv ee b z17 z18 z19 st c0 k0 a0 f0 w0 i0 d0 z20 z21 M z22 z23 z24 z25 z26 n st2 c2 q2 a2 f2 w2 i2 d2 z27 z28 z29 l g
    split at h
    · rename_i hb
      simp only [Bool.and_eq_true] at hb
      obtain ⟨e1, e2, e3, e4, e5, e6, e7, e8, e9, e10, e11, e12, e13, e14, e15, e16, e17, e18, e19, e20, e21, e22, e23, e24, e25, e26, e27, e28, e29⟩ := hb
      have e1 := Nat.eq_of_beq_eq_true e1; subst e1
      have e2 := Nat.eq_of_beq_eq_true e2; subst e2
      have e3 := Nat.eq_of_beq_eq_true e3; subst e3
      have e4 := Nat.eq_of_beq_eq_true e4; subst e4
      have e5 := Nat.eq_of_beq_eq_true e5; subst e5
      have e6 := Nat.eq_of_beq_eq_true e6; subst e6
      have e7 := Nat.eq_of_beq_eq_true e7; subst e7
      have e8 := Nat.eq_of_beq_eq_true e8; subst e8
      have e9 := Nat.eq_of_beq_eq_true e9; subst e9
      have e10 := Nat.eq_of_beq_eq_true e10; subst e10
      have e11 := Nat.eq_of_beq_eq_true e11; subst e11
      have e12 := Nat.eq_of_beq_eq_true e12; subst e12
      have e13 := Nat.eq_of_beq_eq_true e13; subst e13
      have e14 := Nat.eq_of_beq_eq_true e14; subst e14
      have e15 := Nat.eq_of_beq_eq_true e15; subst e15
      have e16 := Nat.eq_of_beq_eq_true e16; subst e16
      have e17 := Nat.eq_of_beq_eq_true e17; subst e17
      have e18 := Nat.eq_of_beq_eq_true e18; subst e18
      have e19 := Nat.eq_of_beq_eq_true e19; subst e19
      have e20 := Nat.eq_of_beq_eq_true e20; subst e20
      have e21 := Nat.eq_of_beq_eq_true e21; subst e21
      have e22 := Nat.eq_of_beq_eq_true e22; subst e22
      have e23 := Nat.eq_of_beq_eq_true e23; subst e23
      have e24 := Nat.eq_of_beq_eq_true e24; subst e24
      have e25 := Nat.eq_of_beq_eq_true e25; subst e25
      have e26 := Nat.eq_of_beq_eq_true e26; subst e26
      have e27 := Nat.eq_of_beq_eq_true e27; subst e27
      have e28 := Nat.eq_of_beq_eq_true e28; subst e28
      have e29 := shBeq_eq e29; subst e29
      cases h
      exact ep2_loc at_ e th k2 t2 ln ee b al mv mw ⟨M, st, ⟨c0, k0, a0, f0, w0, i0, d0⟩⟩ n l g st2 ⟨c2, q2, a2, f2, w2, i2, d2⟩
    · cases h
  · cases h

end Go.Proofs.Ytephpkfajobhmaa
