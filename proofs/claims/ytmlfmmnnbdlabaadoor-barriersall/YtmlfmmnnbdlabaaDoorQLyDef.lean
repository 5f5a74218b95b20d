/-
  QLyDef and what follows it.
-/
import Derived.Test.YtmlfmmnnbdlabaaDoorQLx
/-
  Chapter 14: Lay: definitions.
-/
set_option linter.unusedSimpArgs false
set_option linter.unusedVariables false
namespace Go.Proofs.YtmlfmmnnbdlabaaDoor
open Go.Ev

noncomputable def layH (n : Nat) (g : Nat → Nat → AV) (bl st c0 k0 a0 f0 w0 i0 : Int) (d0 : Bool) (M : List Int → Option Int) (z : MS) : List (Nat × AO) := [(1, .cells 9 (.map 2 :: .sym .i64 st :: [.sym .u8 c0, .sym .u8 k0, .sym .i64 a0, .sym .i64 f0, .sym .u64 w0, .sym .u64 i0, .symb d0])), (2, .map 76 M), (3, .arr 10 tSh true n g)]
noncomputable def layR (n : Nat) (g : Nat → Nat → AV) (bl st c0 k0 a0 f0 w0 i0 : Int) (d0 : Bool) (M : List Int → Option Int) (z : MS) : LR := ⟨3, .tup [], [(1, .cells 9 (.map 2 :: .sym .i64 z.st :: z.L.l)), (2, .map 76 z.M), (3, .arr 10 tSh true n g)], 0, [1, 2], [n ≤ 16, (layN g (mStore ⟨M, st, ⟨c0, k0, a0, f0, w0, i0, d0⟩⟩ 5 0 0 (IntKind.u64.wrap bl)) n) = z]⟩
end Go.Proofs.YtmlfmmnnbdlabaaDoor

/-
  Chapter 14: Lay.
-/
set_option linter.unusedSimpArgs false
set_option linter.unusedVariables false
namespace Go.Proofs.YtmlfmmnnbdlabaaDoor
open Go.Ev
theorem lay_1 (n : Nat) (g : Nat → Nat → AV) (bl st c0 k0 a0 f0 w0 i0 : Int) (d0 : Bool) (M : List Int → Option Int) (z : MS) : callB ELy 2000 17 [AV.ptr 1 0 0, AV.ss 10 3 0 n none, AV.sym IntKind.i64 bl] (layH n g bl st c0 k0 a0 f0 w0 i0 d0 M z) (layR n g bl st c0 k0 a0 f0 w0 i0 d0 M z) [] [Hint.lp [0, 1, 6] (Ex.exit 0) (lyX n g z).tmps (lyX n g z).hp.heap 4 [1, 2], Hint.b true] =
 some ([z.st = z.st,
 z.L.c = z.L.c,
 z.L.k = z.L.k,
 z.L.a = z.L.a,
 z.L.f = z.L.f,
 z.L.w = z.L.w,
 z.L.i = z.L.i,
 z.L.d = z.L.d,
 ∀ (k : List Int), z.M k = z.M k,
 true = true,
 n ≤ n,
 g = g ∧ plainSh tSh = true ∨ ∀ (i : Nat), i < n → rowOb tSh 0 (g i) (g i),
 lyLP n g (mStore (MS.mk M st (LS.mk c0 k0 a0 f0 w0 i0 d0)) 5 0 0 (IntKind.u64.wrap bl)) z,
 (0 : Int) ≤ (5 : Int)]) := by kernel_rfl
theorem lay_loc (n : Nat) (g : Nat → Nat → AV) (bl st c0 k0 a0 f0 w0 i0 : Int) (d0 : Bool) (M : List Int → Option Int) (z : MS) : LocOk Tryd.prog 17 [.ptr 1 0 0, .ss 10 3 0 n none, .sym .i64 bl] (layH n g bl st c0 k0 a0 f0 w0 i0 d0 M z) (layR n g bl st c0 k0 a0 f0 w0 i0 d0 M z) := by
  refine loc_of_call ELy_ok (fun hp => ?_)
  have hn : n ≤ 16 := hp _ (List.mem_cons_self ..)
  have hz : (layN g (mStore ⟨M, st, ⟨c0, k0, a0, f0, w0, i0, d0⟩⟩ 5 0 0 (IntKind.u64.wrap bl)) n) = z := hp _ (List.mem_cons_of_mem _ (List.mem_cons_self ..))
  clear hp
  have hln := ly_lp n g (mStore ⟨M, st, ⟨c0, k0, a0, f0, w0, i0, d0⟩⟩ 5 0 0 (IntKind.u64.wrap bl)) hn
  rw [hz] at hln
  refine ⟨2000, _, _, _, lay_1 .., (ob_cons rfl (ob_cons rfl (ob_cons rfl (ob_cons rfl (ob_cons rfl (ob_cons rfl (ob_cons rfl (ob_cons rfl (ob_cons (fun _ => rfl) (ob_cons rfl (ob_cons (Nat.le_refl _) (ob_cons (.inl ⟨rfl, rfl⟩) (ob_cons ?_ (ob_cons (by decide) ob_nil))))))))))))))⟩
  ·
    first | exact hln | decide | exact rfl | exact fun _ => rfl | omega | trivial
noncomputable def layG (n n2 : Nat) (g : Nat → Nat → AV) (bl st c0 k0 a0 f0 w0 i0 : Int) (d0 : Bool) (M : List Int → Option Int) : LR := ⟨3, .tup [], [(1, .cells 9 (.map 2 :: .sym .i64 (layN g (mStore ⟨M, st, ⟨c0, k0, a0, f0, w0, i0, d0⟩⟩ 5 0 0 (IntKind.u64.wrap bl)) n).st :: (layN g (mStore ⟨M, st, ⟨c0, k0, a0, f0, w0, i0, d0⟩⟩ 5 0 0 (IntKind.u64.wrap bl)) n).L.l)), (2, .map 76 (layN g (mStore ⟨M, st, ⟨c0, k0, a0, f0, w0, i0, d0⟩⟩ 5 0 0 (IntKind.u64.wrap bl)) n).M), (3, .arr 10 tSh true n2 g)], 0, [1, 2], [n2 = n, n ≤ 16]⟩
theorem layG_loc (n n2 : Nat) (g : Nat → Nat → AV) (bl st c0 k0 a0 f0 w0 i0 : Int) (d0 : Bool) (M : List Int → Option Int) : LocOk Tryd.prog 17 [.ptr 1 0 0, .ss 10 3 0 n none, .sym .i64 bl] [(1, .cells 9 (.map 2 :: .sym .i64 st :: [.sym .u8 c0, .sym .u8 k0, .sym .i64 a0, .sym .i64 f0, .sym .u64 w0, .sym .u64 i0, .symb d0])), (2, .map 76 M), (3, .arr 10 tSh true n2 g)] (layG n n2 g bl st c0 k0 a0 f0 w0 i0 d0 M) := by
  intro ρ w hob
  have e2 : n2 = n := hob _ (List.mem_cons_self ..)
  subst e2
  have e3 : n2 ≤ 16 := hob _ (List.mem_cons_of_mem _ (List.mem_cons_self ..))
  exact lay_loc n2 g bl st c0 k0 a0 f0 w0 i0 d0 M _ ρ w (cj ⟨e3, rfl, trivial⟩)
noncomputable def laySpec : LSpec := fun la lh => match la, lh with
  | [.ptr z1 z2 z3, .ss z4 z5 z6 n none, .sym .i64 bl], [(z7, .cells z8 (.map z9 :: .sym .i64 st :: [.sym .u8 c0, .sym .u8 k0, .sym .i64 a0, .sym .i64 f0, .sym .u64 w0, .sym .u64 i0, .symb d0])), (z10, .map z11 M), (z12, .arr z13 z14 true n2 g)] =>
    match Nat.beq z1 1 && (Nat.beq z2 0 && (Nat.beq z3 0 && (Nat.beq z4 10 && (Nat.beq z5 3 && (Nat.beq z6 0 && (Nat.beq z7 1 && (Nat.beq z8 9 && (Nat.beq z9 2 && (Nat.beq z10 2 && (Nat.beq z11 76 && (Nat.beq z12 3 && (Nat.beq z13 10 && (shBeq z14 tSh))))))))))))) with
    | true => some (layG n n2 g bl st c0 k0 a0 f0 w0 i0 d0 M)
    | false => none
  | _, _ => none
theorem laySpec_ok (la : List AV) (lh : List (Nat × AO)) (R : LR) (h : laySpec la lh = some R) : LocOk Tryd.prog 17 la lh R := by
  unfold laySpec at h
  split at h
  · rename_i z1 z2 z3 z4 z5 z6 n bl z7 z8 z9 st c0 k0 a0 f0 w0 i0 d0 z10 z11 M z12 z13 z14 n2 g
    split at h
    · rename_i hb
      simp only [Bool.and_eq_true] at hb
      obtain ⟨e1, e2, e3, e4, e5, e6, e7, e8, e9, e10, e11, e12, e13, e14⟩ := hb
      have e1 := Nat.eq_of_beq_eq_true e1; subst e1
      have e2 := Nat.eq_of_beq_eq_true e2; subst e2
      have e3 := Nat.eq_of_beq_eq_true e3; subst e3
      have e4 := Nat.eq_of_beq_eq_true e4; subst e4
      have e5 := Nat.eq_of_beq_eq_true e5; subst e5
      have e6 := Nat.eq_of_beq_eq_true e6; subst e6
      have e7 := Nat.eq_of_beq_eq_true e7; subst e7
      have e8 := Nat.eq_of_beq_eq_true e8; subst e8
      have e9 := Nat.eq_of_beq_eq_true e9; subst e9
      have e10 := Nat.eq_of_beq_eq_true e10; subst e10
      have e11 := Nat.eq_of_beq_eq_true e11; subst e11
      have e12 := Nat.eq_of_beq_eq_true e12; subst e12
      have e13 := Nat.eq_of_beq_eq_true e13; subst e13
      have e14 := shBeq_eq e14; subst e14
      cases h
      exact layG_loc n n2 g bl st c0 k0 a0 f0 w0 i0 d0 M
    · cases h
  · cases h

end Go.Proofs.YtmlfmmnnbdlabaaDoor
