/-
  ErasPlay: contracts.
-/
import Derived.Test.YtephpkfajobhmaaWRcDef
set_option linter.unusedSimpArgs false
set_option linter.unusedVariables false
namespace Go.Proofs.Ytephpkfajobhmaa
open Go.Ev
theorem er0_loc (av th hi k2 t2 ln h2 e : Int) (dn : Bool) (S : MS) (n l : Nat) (g : Nat → Nat → AV) (s2 : Int) (L2 : LS) : LocOk Try.prog 71 [.agg [.ptr 1 0 0, .nilp, .nilp, .nilp, .ptr 2 0 0], .agg [.ptr 3 0 0, .ptr 5 0 0]] (er0H av th hi k2 t2 ln h2 e dn S n l g s2 L2) (er0R av th hi k2 t2 ln h2 e dn S n l g s2 L2) := by
  intro ρ w hp hr hf hg xs hx
  have hl : n ≤ l := hp _ (List.mem_cons_self ..)
  have hm : n ≤ 100000 := hp _ (List.mem_cons_of_mem _ (List.mem_cons_self ..))
  have hb : Both S (mkR n g s2 L2) := hp _ (List.mem_cons_of_mem _ (List.mem_cons_of_mem _ (List.mem_cons_self ..)))
  have hu : ∀ k, 0 ≤ mget S.M k ∧ mget S.M k < 18446744073709551616 := hp _ (List.mem_cons_of_mem _ (List.mem_cons_of_mem _ (List.mem_cons_of_mem _ (List.mem_cons_self ..))))
  have hk : k2 = 0 := hp _ (List.mem_cons_of_mem _ (List.mem_cons_of_mem _ (List.mem_cons_of_mem _ (List.mem_cons_of_mem _ (List.mem_cons_self ..)))))
  have ht : th = t2 := hp _ (List.mem_cons_of_mem _ (List.mem_cons_of_mem _ (List.mem_cons_of_mem _ (List.mem_cons_of_mem _ (List.mem_cons_of_mem _ (List.mem_cons_self ..))))))
  have hat : av = 0 ∨ av = 1 ∨ av = 2 ∨ av = 3 := hp _ (List.mem_cons_of_mem _ (List.mem_cons_of_mem _ (List.mem_cons_of_mem _ (List.mem_cons_of_mem _ (List.mem_cons_of_mem _ (List.mem_cons_of_mem _ (List.mem_cons_self ..)))))))
  have hln : ln = rl0 av := hp _ (List.mem_cons_of_mem _ (List.mem_cons_of_mem _ (List.mem_cons_of_mem _ (List.mem_cons_of_mem _ (List.mem_cons_of_mem _ (List.mem_cons_of_mem _ (List.mem_cons_of_mem _ (List.mem_cons_self ..))))))))
  have h2e : h2 = rG0 av hi := hp _ (List.mem_cons_of_mem _ (List.mem_cons_of_mem _ (List.mem_cons_of_mem _ (List.mem_cons_of_mem _ (List.mem_cons_of_mem _ (List.mem_cons_of_mem _ (List.mem_cons_of_mem _ (List.mem_cons_of_mem _ (List.mem_cons_self ..)))))))))
  have hh : av = 1 ∨ av = 2 → hi = IntKind.u64.wrap (e + 1) := hp _ (List.mem_cons_of_mem _ (List.mem_cons_of_mem _ (List.mem_cons_of_mem _ (List.mem_cons_of_mem _ (List.mem_cons_of_mem _ (List.mem_cons_of_mem _ (List.mem_cons_of_mem _ (List.mem_cons_of_mem _ (List.mem_cons_of_mem _ (List.mem_cons_self ..))))))))))
  subst hk; subst ht; subst hln; subst h2e
  rcases hat with rfl | rfl | rfl | rfl
  ·
    exact loc_symR (ere0_loc th hi 0 e dn S n l g s2 L2) ρ w ((ob_cons hl (ob_cons hm (ob_cons hb (ob_cons hu ob_nil))))) hr hf hg xs hx
  · obtain rfl := hh (.inl rfl)
    exact loc_symR (ere1_loc th 0 0 e dn S n l g s2 L2) ρ w ((ob_cons hl (ob_cons hm (ob_cons hb (ob_cons hu ob_nil))))) hr hf hg xs hx
  · obtain rfl := hh (.inr rfl)
    exact loc_symR (ere2_loc th 0 0 e dn S n l g s2 L2) ρ w ((ob_cons hl (ob_cons hm (ob_cons hb (ob_cons hu ob_nil))))) hr hf hg xs hx
  ·
    exact loc_symR (ere3_loc th hi 0 e dn S n l g s2 L2) ρ w ((ob_cons hl (ob_cons hm (ob_cons hb (ob_cons hu ob_nil))))) hr hf hg xs hx
noncomputable def er0Spec : LSpec := fun la lh => match la, lh with
  | [.agg [.ptr z1 z2 z3, .nilp, .nilp, .nilp, .ptr z4 z5 z6], .agg [.ptr z7 z8 z9, .ptr z10 z11 z12]], [(z13, .cells z14 [.sym .i64 av, .sym .i64 th, .sym .u64 hi]), (z15, .cells z16 [.sym .i64 k2, .sym .i64 t2, .sym .i64 ln, .sym .u64 h2, .symb dn, .sym .u64 e]), (z17, .cells z18 [.map z19, .sym .i64 st, .sym .u8 c0, .sym .u8 k0, .sym .i64 a0, .sym .i64 f0, .sym .u64 w0, .sym .u64 i0, .symb d0]), (z20, .map z21 M), (z22, .cells z23 [.ss z24 z25 z26 n none, .sym .i64 st2, .sym .u8 c2, .sym .u8 q2, .sym .i64 a2, .sym .i64 f2, .sym .u64 w2, .sym .u64 i2, .symb d2]), (z27, .arr z28 z29 false l g)] =>
    match Nat.beq z1 1 && (Nat.beq z2 0 && (Nat.beq z3 0 && (Nat.beq z4 2 && (Nat.beq z5 0 && (Nat.beq z6 0 && (Nat.beq z7 3 && (Nat.beq z8 0 && (Nat.beq z9 0 && (Nat.beq z10 5 && (Nat.beq z11 0 && (Nat.beq z12 0 && (Nat.beq z13 1 && (Nat.beq z14 3 && (Nat.beq z15 2 && (Nat.beq z16 6 && (Nat.beq z17 3 && (Nat.beq z18 9 && (Nat.beq z19 4 && (Nat.beq z20 4 && (Nat.beq z21 26 && (Nat.beq z22 5 && (Nat.beq z23 9 && (Nat.beq z24 4 && (Nat.beq z25 6 && (Nat.beq z26 0 && (Nat.beq z27 6 && (Nat.beq z28 4 && (shBeq z29 wSh)))))))))))))))))))))))))))) with
    | true => some (er0R av th hi k2 t2 ln h2 e dn ⟨M, st, ⟨c0, k0, a0, f0, w0, i0, d0⟩⟩ n l g st2 ⟨c2, q2, a2, f2, w2, i2, d2⟩)
    | false => none
  | _, _ => none
theorem er0Spec_ok (la : List AV) (lh : List (Nat × AO)) (R : LR) (h : er0Spec la lh = some R) : LocOk Try.prog 71 la lh R := by
  unfold er0Spec at h
  split at h
  · rename_i z1 z2 z3 z4 z5 z6 z7 z8 z9 z10 z11 z12 z13 z14 av th hi z15 z16 k2 t2 ln h2 dn e z17 z18 z19 st c0 k0 a0 f0 w0 i0 d0 z20 z21 M z22 z23 z24 z25 z26 n st2 c2 q2 a2 f2 w2 i2 d2 z27 z28 z29 l g
    split at h
    · rename_i hb
      simp only [Bool.and_eq_true] at hb
      obtain ⟨e1, e2, e3, e4, e5, e6, e7, e8, e9, e10, e11, e12, e13, e14, e15, e16, e17, e18, e19, e20, e21, e22, e23, e24, e25, e26, e27, e28, e29⟩ := hb
      have e1 := Nat.eq_of_beq_eq_true e1; subst e1
      have e2 := Nat.eq_of_beq_eq_true e2; subst e2
      have e3 := Nat.eq_of_beq_eq_true e3; subst e3
      have e4 := Nat.eq_of_beq_eq_true e4; subst e4
      have e5 := Nat.eq_of_beq_eq_true e5; subst e5
      have e6 := Nat.eq_of_beq_eq_true e6; subst e6
      have e7 := Nat.eq_of_beq_eq_true e7; subst e7
      have e8 := Nat.eq_of_beq_eq_true e8; subst e8
      have e9 := Nat.eq_of_beq_eq_true e9; subst e9
      have e10 := Nat.eq_of_beq_eq_true e10; subst e10
      have e11 := Nat.eq_of_beq_eq_true e11; subst e11
      have e12 := Nat.eq_of_beq_eq_true e12; subst e12
      have e13 := Nat.eq_of_beq_eq_true e13; subst e13
      have e14 := Nat.eq_of_beq_eq_true e14; subst e14
      have e15 := Nat.eq_of_beq_eq_true e15; subst e15
      have e16 := Nat.eq_of_beq_eq_true e16; subst e16
      have e17 := Nat.eq_of_beq_eq_true e17; subst e17
      have e18 := Nat.eq_of_beq_eq_true e18; subst e18
      have e19 := Nat.eq_of_beq_eq_true e19; subst e19
      have e20 := Nat.eq_of_beq_eq_true e20; subst e20
      have e21 := Nat.eq_of_beq_eq_true e21; subst e21
      have e22 := Nat.eq_of_beq_eq_true e22; subst e22
      have e23 := Nat.eq_of_beq_eq_true e23; subst e23
      have e24 := Nat.eq_of_beq_eq_true e24; subst e24
      have e25 := Nat.eq_of_beq_eq_true e25; subst e25
      have e26 := Nat.eq_of_beq_eq_true e26; subst e26
      have e27 := Nat.eq_of_beq_eq_true e27; subst e27
      have e28 := Nat.eq_of_beq_eq_true e28; subst e28
      have e29 := shBeq_eq e29; subst e29
      cases h
      exact er0_loc av th hi k2 t2 ln h2 e dn ⟨M, st, ⟨c0, k0, a0, f0, w0, i0, d0⟩⟩ n l g st2 ⟨c2, q2, a2, f2, w2, i2, d2⟩
    · cases h
  · cases h

theorem er1_loc (av th k2 t2 ln h2 e : Int) (dn : Bool) (S : MS) (n l : Nat) (g : Nat → Nat → AV) (s2 : Int) (L2 : LS) : LocOk Try.prog 71 [.agg [.nilp, .ptr 1 0 0, .nilp, .nilp, .ptr 2 0 0], .agg [.ptr 3 0 0, .ptr 5 0 0]] (er1H av th k2 t2 ln h2 e dn S n l g s2 L2) (er1R av th k2 t2 ln h2 e dn S n l g s2 L2) := by
  intro ρ w hp hr hf hg xs hx
  have hl : n ≤ l := hp _ (List.mem_cons_self ..)
  have hm : n ≤ 100000 := hp _ (List.mem_cons_of_mem _ (List.mem_cons_self ..))
  have hb : Both S (mkR n g s2 L2) := hp _ (List.mem_cons_of_mem _ (List.mem_cons_of_mem _ (List.mem_cons_self ..)))
  have hu : ∀ k, 0 ≤ mget S.M k ∧ mget S.M k < 18446744073709551616 := hp _ (List.mem_cons_of_mem _ (List.mem_cons_of_mem _ (List.mem_cons_of_mem _ (List.mem_cons_self ..))))
  have hk : k2 = 1 := hp _ (List.mem_cons_of_mem _ (List.mem_cons_of_mem _ (List.mem_cons_of_mem _ (List.mem_cons_of_mem _ (List.mem_cons_self ..)))))
  have ht : th = t2 := hp _ (List.mem_cons_of_mem _ (List.mem_cons_of_mem _ (List.mem_cons_of_mem _ (List.mem_cons_of_mem _ (List.mem_cons_of_mem _ (List.mem_cons_self ..))))))
  have hat : av = 0 ∨ av = 1 ∨ av = 2 := hp _ (List.mem_cons_of_mem _ (List.mem_cons_of_mem _ (List.mem_cons_of_mem _ (List.mem_cons_of_mem _ (List.mem_cons_of_mem _ (List.mem_cons_of_mem _ (List.mem_cons_self ..)))))))
  have hln : ln = rl1 av := hp _ (List.mem_cons_of_mem _ (List.mem_cons_of_mem _ (List.mem_cons_of_mem _ (List.mem_cons_of_mem _ (List.mem_cons_of_mem _ (List.mem_cons_of_mem _ (List.mem_cons_of_mem _ (List.mem_cons_self ..))))))))
  subst hk; subst ht; subst hln
  rcases hat with rfl | rfl | rfl
  ·
    exact loc_symR (erx0_loc th h2 0 e dn S n l g s2 L2) ρ w ((ob_cons hl (ob_cons hm (ob_cons hb (ob_cons hu ob_nil))))) hr hf hg xs hx
  ·
    exact loc_symR (erx1_loc th h2 0 e dn S n l g s2 L2) ρ w ((ob_cons hl (ob_cons hm (ob_cons hb (ob_cons hu ob_nil))))) hr hf hg xs hx
  ·
    exact loc_symR (erx2_loc th h2 0 e dn S n l g s2 L2) ρ w ((ob_cons hl (ob_cons hm (ob_cons hb (ob_cons hu ob_nil))))) hr hf hg xs hx
noncomputable def er1Spec : LSpec := fun la lh => match la, lh with
  | [.agg [.nilp, .ptr z1 z2 z3, .nilp, .nilp, .ptr z4 z5 z6], .agg [.ptr z7 z8 z9, .ptr z10 z11 z12]], [(z13, .cells z14 [.sym .i64 av, .sym .i64 th]), (z15, .cells z16 [.sym .i64 k2, .sym .i64 t2, .sym .i64 ln, .sym .u64 h2, .symb dn, .sym .u64 e]), (z17, .cells z18 [.map z19, .sym .i64 st, .sym .u8 c0, .sym .u8 k0, .sym .i64 a0, .sym .i64 f0, .sym .u64 w0, .sym .u64 i0, .symb d0]), (z20, .map z21 M), (z22, .cells z23 [.ss z24 z25 z26 n none, .sym .i64 st2, .sym .u8 c2, .sym .u8 q2, .sym .i64 a2, .sym .i64 f2, .sym .u64 w2, .sym .u64 i2, .symb d2]), (z27, .arr z28 z29 false l g)] =>
    match Nat.beq z1 1 && (Nat.beq z2 0 && (Nat.beq z3 0 && (Nat.beq z4 2 && (Nat.beq z5 0 && (Nat.beq z6 0 && (Nat.beq z7 3 && (Nat.beq z8 0 && (Nat.beq z9 0 && (Nat.beq z10 5 && (Nat.beq z11 0 && (Nat.beq z12 0 && (Nat.beq z13 1 && (Nat.beq z14 2 && (Nat.beq z15 2 && (Nat.beq z16 6 && (Nat.beq z17 3 && (Nat.beq z18 9 && (Nat.beq z19 4 && (Nat.beq z20 4 && (Nat.beq z21 26 && (Nat.beq z22 5 && (Nat.beq z23 9 && (Nat.beq z24 4 && (Nat.beq z25 6 && (Nat.beq z26 0 && (Nat.beq z27 6 && (Nat.beq z28 4 && (shBeq z29 wSh)))))))))))))))))))))))))))) with
    | true => some (er1R av th k2 t2 ln h2 e dn ⟨M, st, ⟨c0, k0, a0, f0, w0, i0, d0⟩⟩ n l g st2 ⟨c2, q2, a2, f2, w2, i2, d2⟩)
    | false => none
  | _, _ => none
theorem er1Spec_ok (la : List AV) (lh : List (Nat × AO)) (R : LR) (h : er1Spec la lh = some R) : LocOk Try.prog 71 la lh R := by
  unfold er1Spec at h
  split at h
  · rename_i z1 z2 z3 z4 z5 z6 z7 z8 z9 z10 z11 z12 z13 z14 av th z15 z16 k2 t2 ln h2 dn e z17 z18 z19 st c0 k0 a0 f0 w0 i0 d0 z20 z21 M z22 z23 z24 z25 z26 n st2 c2 q2 a2 f2 w2 i2 d2 z27 z28 z29 l g
    split at h
    · rename_i hb
      simp only [Bool.and_eq_true] at hb
      obtain ⟨e1, e2, e3, e4, e5, e6, e7, e8, e9, e10, e11, e12, e13, e14, e15, e16, e17, e18, e19, e20, e21, e22, e23, e24, e25, e26, e27, e28, e29⟩ := hb
      have e1 := Nat.eq_of_beq_eq_true e1; subst e1
      have e2 := Nat.eq_of_beq_eq_true e2; subst e2
      have e3 := Nat.eq_of_beq_eq_true e3; subst e3
      have e4 := Nat.eq_of_beq_eq_true e4; subst e4
      have e5 := Nat.eq_of_beq_eq_true e5; subst e5
      have e6 := Nat.eq_of_beq_eq_true e6; subst e6
      have e7 := Nat.eq_of_beq_eq_true e7; subst e7
      have e8 := Nat.eq_of_beq_eq_true e8; subst e8
      have e9 := Nat.eq_of_beq_eq_true e9; subst e9
      have e10 := Nat.eq_of_beq_eq_true e10; subst e10
      have e11 := Nat.eq_of_beq_eq_true e11; subst e11
      have e12 := Nat.eq_of_beq_eq_true e12; subst e12
      have e13 := Nat.eq_of_beq_eq_true e13; subst e13
      have e14 := Nat.eq_of_beq_eq_true e14; subst e14
      have e15 := Nat.eq_of_beq_eq_true e15; subst e15
      have e16 := Nat.eq_of_beq_eq_true e16; subst e16
      have e17 := Nat.eq_of_beq_eq_true e17; subst e17
      have e18 := Nat.eq_of_beq_eq_true e18; subst e18
      have e19 := Nat.eq_of_beq_eq_true e19; subst e19
      have e20 := Nat.eq_of_beq_eq_true e20; subst e20
      have e21 := Nat.eq_of_beq_eq_true e21; subst e21
      have e22 := Nat.eq_of_beq_eq_true e22; subst e22
      have e23 := Nat.eq_of_beq_eq_true e23; subst e23
      have e24 := Nat.eq_of_beq_eq_true e24; subst e24
      have e25 := Nat.eq_of_beq_eq_true e25; subst e25
      have e26 := Nat.eq_of_beq_eq_true e26; subst e26
      have e27 := Nat.eq_of_beq_eq_true e27; subst e27
      have e28 := Nat.eq_of_beq_eq_true e28; subst e28
      have e29 := shBeq_eq e29; subst e29
      cases h
      exact er1_loc av th k2 t2 ln h2 e dn ⟨M, st, ⟨c0, k0, a0, f0, w0, i0, d0⟩⟩ n l g st2 ⟨c2, q2, a2, f2, w2, i2, d2⟩
    · cases h
  · cases h

theorem er2_loc (av th hi nw k2 t2 ln h2 e : Int) (dn dm : Bool) (S : MS) (n l : Nat) (g : Nat → Nat → AV) (s2 : Int) (L2 : LS) : LocOk Try.prog 71 [.agg [.nilp, .nilp, .ptr 1 0 0, .nilp, .ptr 2 0 0], .agg [.ptr 3 0 0, .ptr 5 0 0]] (er2H av th hi nw k2 t2 ln h2 e dn dm S n l g s2 L2) (er2R av th hi nw k2 t2 ln h2 e dn dm S n l g s2 L2) := by
  intro ρ w hp hr hf hg xs hx
  have hl : n ≤ l := hp _ (List.mem_cons_self ..)
  have hm : n ≤ 100000 := hp _ (List.mem_cons_of_mem _ (List.mem_cons_self ..))
  have hb : Both S (mkR n g s2 L2) := hp _ (List.mem_cons_of_mem _ (List.mem_cons_of_mem _ (List.mem_cons_self ..)))
  have hu : ∀ k, 0 ≤ mget S.M k ∧ mget S.M k < 18446744073709551616 := hp _ (List.mem_cons_of_mem _ (List.mem_cons_of_mem _ (List.mem_cons_of_mem _ (List.mem_cons_self ..))))
  have hk : k2 = 2 := hp _ (List.mem_cons_of_mem _ (List.mem_cons_of_mem _ (List.mem_cons_of_mem _ (List.mem_cons_of_mem _ (List.mem_cons_self ..)))))
  have ht : th = t2 := hp _ (List.mem_cons_of_mem _ (List.mem_cons_of_mem _ (List.mem_cons_of_mem _ (List.mem_cons_of_mem _ (List.mem_cons_of_mem _ (List.mem_cons_self ..))))))
  have hat : av = 0 ∨ av = 1 ∨ av = 2 := hp _ (List.mem_cons_of_mem _ (List.mem_cons_of_mem _ (List.mem_cons_of_mem _ (List.mem_cons_of_mem _ (List.mem_cons_of_mem _ (List.mem_cons_of_mem _ (List.mem_cons_self ..)))))))
  have hln : ln = rl1 av := hp _ (List.mem_cons_of_mem _ (List.mem_cons_of_mem _ (List.mem_cons_of_mem _ (List.mem_cons_of_mem _ (List.mem_cons_of_mem _ (List.mem_cons_of_mem _ (List.mem_cons_of_mem _ (List.mem_cons_self ..))))))))
  have h2e : hi = h2 := hp _ (List.mem_cons_of_mem _ (List.mem_cons_of_mem _ (List.mem_cons_of_mem _ (List.mem_cons_of_mem _ (List.mem_cons_of_mem _ (List.mem_cons_of_mem _ (List.mem_cons_of_mem _ (List.mem_cons_of_mem _ (List.mem_cons_self ..)))))))))
  have hd : dm = dn := hp _ (List.mem_cons_of_mem _ (List.mem_cons_of_mem _ (List.mem_cons_of_mem _ (List.mem_cons_of_mem _ (List.mem_cons_of_mem _ (List.mem_cons_of_mem _ (List.mem_cons_of_mem _ (List.mem_cons_of_mem _ (List.mem_cons_of_mem _ (List.mem_cons_self ..))))))))))
  have hh : av = 1 → nw = IntKind.u64.wrap (e + 1) := hp _ (List.mem_cons_of_mem _ (List.mem_cons_of_mem _ (List.mem_cons_of_mem _ (List.mem_cons_of_mem _ (List.mem_cons_of_mem _ (List.mem_cons_of_mem _ (List.mem_cons_of_mem _ (List.mem_cons_of_mem _ (List.mem_cons_of_mem _ (List.mem_cons_of_mem _ (List.mem_cons_self ..)))))))))))
  subst hk; subst ht; subst hln; subst h2e; subst hd
  rcases hat with rfl | rfl | rfl
  ·
    exact loc_symR (err0_loc th hi nw e dm S n l g s2 L2) ρ w ((ob_cons hl (ob_cons hm (ob_cons hb (ob_cons hu ob_nil))))) hr hf hg xs hx
  · obtain rfl := hh rfl
    exact loc_symR (err1_loc th hi 0 e dm S n l g s2 L2) ρ w ((ob_cons hl (ob_cons hm (ob_cons hb (ob_cons hu ob_nil))))) hr hf hg xs hx
  · by_cases q : rW S = hi
    · have ea : rA2 S 2 hi = 0 := if_pos q
      have eb : rD2 S 2 hi dm = true := if_pos q
      exact loc_fit (loc_symR (err2a_loc th hi nw e dm S n l g s2 L2)) ((ob_cons hl (ob_cons hm (ob_cons hb (ob_cons hu (ob_cons q ob_nil)))))) (by unfold er2R; rw [ea, eb]; rfl) ρ w hp hr hf hg xs hx
    · have ea : rA2 S 2 hi = 1 := if_neg q
      have eb : rD2 S 2 hi dm = dm := if_neg q
      exact loc_fit (loc_symR (err2b_loc th hi nw e dm S n l g s2 L2)) ((ob_cons hl (ob_cons hm (ob_cons hb (ob_cons hu (ob_cons q ob_nil)))))) (by unfold er2R; rw [ea, eb]; rfl) ρ w hp hr hf hg xs hx
noncomputable def er2Spec : LSpec := fun la lh => match la, lh with
  | [.agg [.nilp, .nilp, .ptr z1 z2 z3, .nilp, .ptr z4 z5 z6], .agg [.ptr z7 z8 z9, .ptr z10 z11 z12]], [(z13, .cells z14 [.sym .i64 av, .sym .i64 th, .sym .u64 hi, .sym .u64 nw, .symb dm]), (z15, .cells z16 [.sym .i64 k2, .sym .i64 t2, .sym .i64 ln, .sym .u64 h2, .symb dn, .sym .u64 e]), (z17, .cells z18 [.map z19, .sym .i64 st, .sym .u8 c0, .sym .u8 k0, .sym .i64 a0, .sym .i64 f0, .sym .u64 w0, .sym .u64 i0, .symb d0]), (z20, .map z21 M), (z22, .cells z23 [.ss z24 z25 z26 n none, .sym .i64 st2, .sym .u8 c2, .sym .u8 q2, .sym .i64 a2, .sym .i64 f2, .sym .u64 w2, .sym .u64 i2, .symb d2]), (z27, .arr z28 z29 false l g)] =>
    match Nat.beq z1 1 && (Nat.beq z2 0 && (Nat.beq z3 0 && (Nat.beq z4 2 && (Nat.beq z5 0 && (Nat.beq z6 0 && (Nat.beq z7 3 && (Nat.beq z8 0 && (Nat.beq z9 0 && (Nat.beq z10 5 && (Nat.beq z11 0 && (Nat.beq z12 0 && (Nat.beq z13 1 && (Nat.beq z14 5 && (Nat.beq z15 2 && (Nat.beq z16 6 && (Nat.beq z17 3 && (Nat.beq z18 9 && (Nat.beq z19 4 && (Nat.beq z20 4 && (Nat.beq z21 26 && (Nat.beq z22 5 && (Nat.beq z23 9 && (Nat.beq z24 4 && (Nat.beq z25 6 && (Nat.beq z26 0 && (Nat.beq z27 6 && (Nat.beq z28 4 && (shBeq z29 wSh)))))))))))))))))))))))))))) with
    | true => some (er2R av th hi nw k2 t2 ln h2 e dn dm ⟨M, st, ⟨c0, k0, a0, f0, w0, i0, d0⟩⟩ n l g st2 ⟨c2, q2, a2, f2, w2, i2, d2⟩)
    | false => none
  | _, _ => none
theorem er2Spec_ok (la : List AV) (lh : List (Nat × AO)) (R : LR) (h : er2Spec la lh = some R) : LocOk Try.prog 71 la lh R := by
  unfold er2Spec at h
  split at h
  · rename_i z1 z2 z3 z4 z5 z6 z7 z8 z9 z10 z11 z12 z13 z14 av th hi nw dm z15 z16 k2 t2 ln h2 dn e z17 z18 z19 st c0 k0 a0 f0 w0 i0 d0 z20 z21 M z22 z23 z24 z25 z26 n st2 c2 q2 a2 f2 w2 i2 d2 z27 z28 z29 l g
    split at h
    · rename_i hb
      simp only [Bool.and_eq_true] at hb
      obtain ⟨e1, e2, e3, e4, e5, e6, e7, e8, e9, e10, e11, e12, e13, e14, e15, e16, e17, e18, e19, e20, e21, e22, e23, e24, e25, e26, e27, e28, e29⟩ := hb
      have e1 := Nat.eq_of_beq_eq_true e1; subst e1
      have e2 := Nat.eq_of_beq_eq_true e2; subst e2
      have e3 := Nat.eq_of_beq_eq_true e3; subst e3
      have e4 := Nat.eq_of_beq_eq_true e4; subst e4
      have e5 := Nat.eq_of_beq_eq_true e5; subst e5
      have e6 := Nat.eq_of_beq_eq_true e6; subst e6
      have e7 := Nat.eq_of_beq_eq_true e7; subst e7
      have e8 := Nat.eq_of_beq_eq_true e8; subst e8
      have e9 := Nat.eq_of_beq_eq_true e9; subst e9
      have e10 := Nat.eq_of_beq_eq_true e10; subst e10
      have e11 := Nat.eq_of_beq_eq_true e11; subst e11
      have e12 := Nat.eq_of_beq_eq_true e12; subst e12
      have e13 := Nat.eq_of_beq_eq_true e13; subst e13
      have e14 := Nat.eq_of_beq_eq_true e14; subst e14
      have e15 := Nat.eq_of_beq_eq_true e15; subst e15
      have e16 := Nat.eq_of_beq_eq_true e16; subst e16
      have e17 := Nat.eq_of_beq_eq_true e17; subst e17
      have e18 := Nat.eq_of_beq_eq_true e18; subst e18
      have e19 := Nat.eq_of_beq_eq_true e19; subst e19
      have e20 := Nat.eq_of_beq_eq_true e20; subst e20
      have e21 := Nat.eq_of_beq_eq_true e21; subst e21
      have e22 := Nat.eq_of_beq_eq_true e22; subst e22
      have e23 := Nat.eq_of_beq_eq_true e23; subst e23
      have e24 := Nat.eq_of_beq_eq_true e24; subst e24
      have e25 := Nat.eq_of_beq_eq_true e25; subst e25
      have e26 := Nat.eq_of_beq_eq_true e26; subst e26
      have e27 := Nat.eq_of_beq_eq_true e27; subst e27
      have e28 := Nat.eq_of_beq_eq_true e28; subst e28
      have e29 := shBeq_eq e29; subst e29
      cases h
      exact er2_loc av th hi nw k2 t2 ln h2 e dn dm ⟨M, st, ⟨c0, k0, a0, f0, w0, i0, d0⟩⟩ n l g st2 ⟨c2, q2, a2, f2, w2, i2, d2⟩
    · cases h
  · cases h

theorem er3_loc (av er k2 t2 ln h2 e : Int) (dn dm : Bool) (S : MS) (n l : Nat) (g : Nat → Nat → AV) (s2 : Int) (L2 : LS) : LocOk Try.prog 71 [.agg [.nilp, .nilp, .nilp, .ptr 1 0 0, .ptr 2 0 0], .agg [.ptr 3 0 0, .ptr 5 0 0]] (er3H av er k2 t2 ln h2 e dn dm S n l g s2 L2) (er3R av er k2 t2 ln h2 e dn dm S n l g s2 L2) := by
  intro ρ w hp hr hf hg xs hx
  have hl : n ≤ l := hp _ (List.mem_cons_self ..)
  have hm : n ≤ 100000 := hp _ (List.mem_cons_of_mem _ (List.mem_cons_self ..))
  have hb : Both S (mkR n g s2 L2) := hp _ (List.mem_cons_of_mem _ (List.mem_cons_of_mem _ (List.mem_cons_self ..)))
  have hu : ∀ k, 0 ≤ mget S.M k ∧ mget S.M k < 18446744073709551616 := hp _ (List.mem_cons_of_mem _ (List.mem_cons_of_mem _ (List.mem_cons_of_mem _ (List.mem_cons_self ..))))
  have hk : k2 = 3 := hp _ (List.mem_cons_of_mem _ (List.mem_cons_of_mem _ (List.mem_cons_of_mem _ (List.mem_cons_of_mem _ (List.mem_cons_self ..)))))
  have hat : av = 0 ∨ av = 1 ∨ av = 2 := hp _ (List.mem_cons_of_mem _ (List.mem_cons_of_mem _ (List.mem_cons_of_mem _ (List.mem_cons_of_mem _ (List.mem_cons_of_mem _ (List.mem_cons_self ..))))))
  have hln : ln = rl1 av := hp _ (List.mem_cons_of_mem _ (List.mem_cons_of_mem _ (List.mem_cons_of_mem _ (List.mem_cons_of_mem _ (List.mem_cons_of_mem _ (List.mem_cons_of_mem _ (List.mem_cons_self ..)))))))
  have hee : e = er := hp _ (List.mem_cons_of_mem _ (List.mem_cons_of_mem _ (List.mem_cons_of_mem _ (List.mem_cons_of_mem _ (List.mem_cons_of_mem _ (List.mem_cons_of_mem _ (List.mem_cons_of_mem _ (List.mem_cons_self ..))))))))
  have hd : dn = dm := hp _ (List.mem_cons_of_mem _ (List.mem_cons_of_mem _ (List.mem_cons_of_mem _ (List.mem_cons_of_mem _ (List.mem_cons_of_mem _ (List.mem_cons_of_mem _ (List.mem_cons_of_mem _ (List.mem_cons_of_mem _ (List.mem_cons_self ..)))))))))
  subst hk; subst hln; subst hee; subst hd
  rcases hat with rfl | rfl | rfl
  ·
    exact loc_symR (erb0_loc t2 h2 0 e dn S n l g s2 L2) ρ w ((ob_cons hl (ob_cons hm (ob_cons hb (ob_cons hu ob_nil))))) hr hf hg xs hx
  ·
    exact loc_symR (erb1_loc t2 h2 0 e dn S n l g s2 L2) ρ w ((ob_cons hl (ob_cons hm (ob_cons hb (ob_cons hu ob_nil))))) hr hf hg xs hx
  ·
    exact loc_symR (erb2_loc t2 h2 0 e dn S n l g s2 L2) ρ w ((ob_cons hl (ob_cons hm (ob_cons hb (ob_cons hu ob_nil))))) hr hf hg xs hx
noncomputable def er3Spec : LSpec := fun la lh => match la, lh with
  | [.agg [.nilp, .nilp, .nilp, .ptr z1 z2 z3, .ptr z4 z5 z6], .agg [.ptr z7 z8 z9, .ptr z10 z11 z12]], [(z13, .cells z14 [.sym .i64 av, .sym .u64 er, .symb dm]), (z15, .cells z16 [.sym .i64 k2, .sym .i64 t2, .sym .i64 ln, .sym .u64 h2, .symb dn, .sym .u64 e]), (z17, .cells z18 [.map z19, .sym .i64 st, .sym .u8 c0, .sym .u8 k0, .sym .i64 a0, .sym .i64 f0, .sym .u64 w0, .sym .u64 i0, .symb d0]), (z20, .map z21 M), (z22, .cells z23 [.ss z24 z25 z26 n none, .sym .i64 st2, .sym .u8 c2, .sym .u8 q2, .sym .i64 a2, .sym .i64 f2, .sym .u64 w2, .sym .u64 i2, .symb d2]), (z27, .arr z28 z29 false l g)] =>
    match Nat.beq z1 1 && (Nat.beq z2 0 && (Nat.beq z3 0 && (Nat.beq z4 2 && (Nat.beq z5 0 && (Nat.beq z6 0 && (Nat.beq z7 3 && (Nat.beq z8 0 && (Nat.beq z9 0 && (Nat.beq z10 5 && (Nat.beq z11 0 && (Nat.beq z12 0 && (Nat.beq z13 1 && (Nat.beq z14 3 && (Nat.beq z15 2 && (Nat.beq z16 6 && (Nat.beq z17 3 && (Nat.beq z18 9 && (Nat.beq z19 4 && (Nat.beq z20 4 && (Nat.beq z21 26 && (Nat.beq z22 5 && (Nat.beq z23 9 && (Nat.beq z24 4 && (Nat.beq z25 6 && (Nat.beq z26 0 && (Nat.beq z27 6 && (Nat.beq z28 4 && (shBeq z29 wSh)))))))))))))))))))))))))))) with
    | true => some (er3R av er k2 t2 ln h2 e dn dm ⟨M, st, ⟨c0, k0, a0, f0, w0, i0, d0⟩⟩ n l g st2 ⟨c2, q2, a2, f2, w2, i2, d2⟩)
    | false => none
  | _, _ => none
theorem er3Spec_ok (la : List AV) (lh : List (Nat × AO)) (R : LR) (h : er3Spec la lh = some R) : LocOk Try.prog 71 la lh R := by
  unfold er3Spec at h
  split at h
  · rename_i z1 z2 z3 z4 z5 z6 z7 z8 z9 z10 z11 z12 z13 z14 av er dm z15 z16 k2 t2 ln h2 dn e z17 z18 z19 st c0 k0 a0 f0 w0 i0 d0 z20 z21 M z22 z23 z24 z25 z26 n st2 c2 q2 a2 f2 w2 i2 d2 z27 z28 z29 l g
    split at h
    · rename_i hb
      simp only [Bool.and_eq_true] at hb
      obtain ⟨e1, e2, e3, e4, e5, e6, e7, e8, e9, e10, e11, e12, e13, e14, e15, e16, e17, e18, e19, e20, e21, e22, e23, e24, e25, e26, e27, e28, e29⟩ := hb
      have e1 := Nat.eq_of_beq_eq_true e1; subst e1
      have e2 := Nat.eq_of_beq_eq_true e2; subst e2
      have e3 := Nat.eq_of_beq_eq_true e3; subst e3
      have e4 := Nat.eq_of_beq_eq_true e4; subst e4
      have e5 := Nat.eq_of_beq_eq_true e5; subst e5
      have e6 := Nat.eq_of_beq_eq_true e6; subst e6
      have e7 := Nat.eq_of_beq_eq_true e7; subst e7
      have e8 := Nat.eq_of_beq_eq_true e8; subst e8
      have e9 := Nat.eq_of_beq_eq_true e9; subst e9
      have e10 := Nat.eq_of_beq_eq_true e10; subst e10
      have e11 := Nat.eq_of_beq_eq_true e11; subst e11
      have e12 := Nat.eq_of_beq_eq_true e12; subst e12
      have e13 := Nat.eq_of_beq_eq_true e13; subst e13
      have e14 := Nat.eq_of_beq_eq_true e14; subst e14
      have e15 := Nat.eq_of_beq_eq_true e15; subst e15
      have e16 := Nat.eq_of_beq_eq_true e16; subst e16
      have e17 := Nat.eq_of_beq_eq_true e17; subst e17
      have e18 := Nat.eq_of_beq_eq_true e18; subst e18
      have e19 := Nat.eq_of_beq_eq_true e19; subst e19
      have e20 := Nat.eq_of_beq_eq_true e20; subst e20
      have e21 := Nat.eq_of_beq_eq_true e21; subst e21
      have e22 := Nat.eq_of_beq_eq_true e22; subst e22
      have e23 := Nat.eq_of_beq_eq_true e23; subst e23
      have e24 := Nat.eq_of_beq_eq_true e24; subst e24
      have e25 := Nat.eq_of_beq_eq_true e25; subst e25
      have e26 := Nat.eq_of_beq_eq_true e26; subst e26
      have e27 := Nat.eq_of_beq_eq_true e27; subst e27
      have e28 := Nat.eq_of_beq_eq_true e28; subst e28
      have e29 := shBeq_eq e29; subst e29
      cases h
      exact er3_loc av er k2 t2 ln h2 e dn dm ⟨M, st, ⟨c0, k0, a0, f0, w0, i0, d0⟩⟩ n l g st2 ⟨c2, q2, a2, f2, w2, i2, d2⟩
    · cases h
  · cases h

end Go.Proofs.Ytephpkfajobhmaa
