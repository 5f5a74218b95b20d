/-
  Contains.
-/
import Derived.Test.YtmndhjodbnojdaaDoorJVbDef
set_option linter.unusedSimpArgs false
set_option linter.unusedVariables false
namespace Go.Proofs.YtmndhjodbnojdaaDoor
open Go.Ev
theorem ctb_1 (n l : Nat) (r : Bool) (f : Nat → Nat → AV) (s : Int) : callB EIc 2000 136 [AV.ss 1 1 0 n none, AV.sym IntKind.i64 s] (ctbH n l r f s) (ctbR n l r f s) [] [] =
 some ([decide (srch (idzP n l r f s) n (fun i => Int.ofNat i) (-1) ≥ 0) = anyE n f s,
 r = r,
 l ≤ l,
 f = f ∧ plainSh [CK.int IntKind.i64] = true ∨ ∀ (i : Nat), i < l → rowOb [CK.int IntKind.i64] 0 (f i) (f i),
 n ≤ l,
 n ≤ 1000000]) := by kernel_rfl
theorem ctb_loc (n l : Nat) (r : Bool) (f : Nat → Nat → AV) (s : Int) : LocOk Tryd.prog 136 [.ss 1 1 0 n none, .sym .i64 s] (ctbH n l r f s) (ctbR n l r f s) := by
  refine loc_of_call EIc_ok (fun hp => ?_)
  have hl : n ≤ l := hp _ (List.mem_cons_self ..)
  have hm : n ≤ 1000000 := hp _ (List.mem_cons_of_mem _ (List.mem_cons_self ..))
  clear hp
  refine ⟨2000, _, _, _, ctb_1 .., (ob_cons ?_ (ob_cons rfl (ob_cons (Nat.le_refl _) (ob_cons (.inl ⟨rfl, rfl⟩) (ob_cons ?_ (ob_cons ?_ ob_nil))))))⟩
  · exact rfl
  · exact hl
  · exact hm
noncomputable def ctbSpec : LSpec := fun la lh => match la, lh with
  | [.ss z1 z2 z3 n none, .sym .i64 s], [(z4, .arr z5 z6 r l f)] =>
    match Nat.beq z1 1 && (Nat.beq z2 1 && (Nat.beq z3 0 && (Nat.beq z4 1 && (Nat.beq z5 1 && (shBeq z6 iSh))))) with
    | true => some (ctbR n l r f s)
    | false => none
  | _, _ => none
theorem ctbSpec_ok (la : List AV) (lh : List (Nat × AO)) (R : LR) (h : ctbSpec la lh = some R) : LocOk Tryd.prog 136 la lh R := by
  unfold ctbSpec at h
  split at h
  · rename_i z1 z2 z3 n s z4 z5 z6 r l f
    split at h
    · rename_i hb
      simp only [Bool.and_eq_true] at hb
      obtain ⟨e1, e2, e3, e4, e5, e6⟩ := hb
      have e1 := Nat.eq_of_beq_eq_true e1; subst e1
      have e2 := Nat.eq_of_beq_eq_true e2; subst e2
      have e3 := Nat.eq_of_beq_eq_true e3; subst e3
      have e4 := Nat.eq_of_beq_eq_true e4; subst e4
      have e5 := Nat.eq_of_beq_eq_true e5; subst e5
      have e6 := shBeq_eq e6; subst e6
      cases h
      exact ctb_loc n l r f s
    · cases h
  · cases h

end Go.Proofs.YtmndhjodbnojdaaDoor
