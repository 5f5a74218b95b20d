/-
  Same of a pair.
-/
import Derived.Test.YtmlfmmnnbdlabaaDoorQPmDef
set_option linter.unusedSimpArgs false
set_option linter.unusedVariables false
namespace Go.Proofs.YtmlfmmnnbdlabaaDoor
open Go.Ev
theorem sme_1 (S : MS) (n l : Nat) (g : Nat → Nat → AV) (s2 : Int) (L2 : LS) : callB EM0 2000 15 [AV.agg [AV.ptr 1 0 0, AV.ptr 3 0 0]] (smeH S n l g s2 L2) (smeR S n l g s2 L2) [] [Hint.node [(9, [Hint.b true])]] =
 some ([(S.st == s2) = true,
 S.st = S.st,
 S.L.c = S.L.c,
 S.L.k = S.L.k,
 S.L.a = S.L.a,
 S.L.f = S.L.f,
 S.L.w = S.L.w,
 S.L.i = S.L.i,
 S.L.d = S.L.d,
 ∀ (k : List Int), S.M k = S.M k,
 (0 : Nat) = 0,
 n = n,
 (none : Option Nat) = none,
 s2 = s2,
 L2.c = L2.c,
 L2.k = L2.k,
 L2.a = L2.a,
 L2.f = L2.f,
 L2.w = L2.w,
 L2.i = L2.i,
 L2.d = L2.d,
 false = false,
 l ≤ l,
 g = g ∧ plainSh wSh = true ∨ ∀ (i : Nat), i < l → rowOb wSh 0 (g i) (g i),
 (and2 (S.L.c == L2.c) (and2 (and2 (S.L.k == L2.k) (and2 (S.L.a == L2.a) (and2 (S.L.f == L2.f) true))) (and2 (S.L.w == L2.w) (and2 (S.L.i == L2.i) (and2 (S.L.d == L2.d) true)))) == true) = true]) := by kernel_rfl
theorem sme_loc (S : MS) (n l : Nat) (g : Nat → Nat → AV) (s2 : Int) (L2 : LS) : LocOk Tryd.prog 15 [.agg [.ptr 1 0 0, .ptr 3 0 0]] (smeH S n l g s2 L2) (smeR S n l g s2 L2) := by
  refine loc_of_call EM0_ok (fun hp => ?_)
  have hb : Both S (mkR n g s2 L2) := hp _ (List.mem_cons_self ..)
  clear hp
  refine ⟨2000, _, _, _, sme_1 .., (ob_cons ?_ (ob_cons rfl (ob_cons rfl (ob_cons rfl (ob_cons rfl (ob_cons rfl (ob_cons rfl (ob_cons rfl (ob_cons rfl (ob_cons (fun _ => rfl) (ob_cons rfl (ob_cons rfl (ob_cons rfl (ob_cons rfl (ob_cons rfl (ob_cons rfl (ob_cons rfl (ob_cons rfl (ob_cons rfl (ob_cons rfl (ob_cons rfl (ob_cons rfl (ob_cons (Nat.le_refl _) (ob_cons (.inl ⟨rfl, rfl⟩) (ob_cons ?_ ob_nil)))))))))))))))))))))))))⟩
  ·
    first | (apply Nat.ble_eq_true_of_le; omega) | (simp [Nat.blt_eq]; omega) | (have e1 : s2 = S.st := hb.st.symm); (have e2 : L2 = S.L := hb.L.symm); subst e1; subst e2; first | (simp; done) | (simp [and2_eq]; done)
  ·
    first | (apply Nat.ble_eq_true_of_le; omega) | (simp [Nat.blt_eq]; omega) | (have e1 : s2 = S.st := hb.st.symm); (have e2 : L2 = S.L := hb.L.symm); subst e1; subst e2; first | (simp; done) | (simp [and2_eq]; done)
noncomputable def smeSpec : LSpec := fun la lh => match la, lh with
  | [.agg [.ptr z1 z2 z3, .ptr z4 z5 z6]], [(z7, .cells z8 [.map z9, .sym .i64 st, .sym .u8 c0, .sym .u8 k0, .sym .i64 a0, .sym .i64 f0, .sym .u64 w0, .sym .u64 i0, .symb d0]), (z10, .map z11 M), (z12, .cells z13 [.ss z14 z15 z16 n none, .sym .i64 st2, .sym .u8 c2, .sym .u8 k2, .sym .i64 a2, .sym .i64 f2, .sym .u64 w2, .sym .u64 i2, .symb d2]), (z17, .arr z18 z19 false l g)] =>
    match Nat.beq z1 1 && (Nat.beq z2 0 && (Nat.beq z3 0 && (Nat.beq z4 3 && (Nat.beq z5 0 && (Nat.beq z6 0 && (Nat.beq z7 1 && (Nat.beq z8 9 && (Nat.beq z9 2 && (Nat.beq z10 2 && (Nat.beq z11 76 && (Nat.beq z12 3 && (Nat.beq z13 9 && (Nat.beq z14 4 && (Nat.beq z15 4 && (Nat.beq z16 0 && (Nat.beq z17 4 && (Nat.beq z18 4 && (shBeq z19 wSh)))))))))))))))))) with
    | true => some (smeR ⟨M, st, ⟨c0, k0, a0, f0, w0, i0, d0⟩⟩ n l g st2 ⟨c2, k2, a2, f2, w2, i2, d2⟩)
    | false => none
  | _, _ => none
theorem smeSpec_ok (la : List AV) (lh : List (Nat × AO)) (R : LR) (h : smeSpec la lh = some R) : LocOk Tryd.prog 15 la lh R := by
  unfold smeSpec at h
  split at h
  · rename_i z1 z2 z3 z4 z5 z6 z7 z8 z9 st c0 k0 a0 f0 w0 i0 d0 z10 z11 M z12 z13 z14 z15 z16 n st2 c2 k2 a2 f2 w2 i2 d2 z17 z18 z19 l g
    split at h
    · rename_i hb
      simp only [Bool.and_eq_true] at hb
      obtain ⟨e1, e2, e3, e4, e5, e6, e7, e8, e9, e10, e11, e12, e13, e14, e15, e16, e17, e18, e19⟩ := hb
      have e1 := Nat.eq_of_beq_eq_true e1; subst e1
      have e2 := Nat.eq_of_beq_eq_true e2; subst e2
      have e3 := Nat.eq_of_beq_eq_true e3; subst e3
      have e4 := Nat.eq_of_beq_eq_true e4; subst e4
      have e5 := Nat.eq_of_beq_eq_true e5; subst e5
      have e6 := Nat.eq_of_beq_eq_true e6; subst e6
      have e7 := Nat.eq_of_beq_eq_true e7; subst e7
      have e8 := Nat.eq_of_beq_eq_true e8; subst e8
      have e9 := Nat.eq_of_beq_eq_true e9; subst e9
      have e10 := Nat.eq_of_beq_eq_true e10; subst e10
      have e11 := Nat.eq_of_beq_eq_true e11; subst e11
      have e12 := Nat.eq_of_beq_eq_true e12; subst e12
      have e13 := Nat.eq_of_beq_eq_true e13; subst e13
      have e14 := Nat.eq_of_beq_eq_true e14; subst e14
      have e15 := Nat.eq_of_beq_eq_true e15; subst e15
      have e16 := Nat.eq_of_beq_eq_true e16; subst e16
      have e17 := Nat.eq_of_beq_eq_true e17; subst e17
      have e18 := Nat.eq_of_beq_eq_true e18; subst e18
      have e19 := shBeq_eq e19; subst e19
      cases h
      exact sme_loc ⟨M, st, ⟨c0, k0, a0, f0, w0, i0, d0⟩⟩ n l g st2 ⟨c2, k2, a2, f2, w2, i2, d2⟩
    · cases h
  · cases h

end Go.Proofs.YtmlfmmnnbdlabaaDoor
