/-
  Contracts of Words, as an environment has them.
-/
import Derived.Test.YtmlfmmnnbdlabaaDoorQYh
import Derived.Test.YtmlfmmnnbdlabaaDoorEvLoc2
set_option linter.unusedSimpArgs false
set_option linter.unusedVariables false
namespace Go.Proofs.YtmlfmmnnbdlabaaDoor
open Go.Ev
noncomputable def wdsSpec : LSpec := fun la lh => match la, lh with
  | [.ptr z1 z2 z3], [(z4, .cells z5 [.map z6, a0, a1, a2, a3, a4, a5, a6, a7]), (z7, .map z8 f)] =>
    match Nat.beq z1 1 && (Nat.beq z2 0 && (Nat.beq z3 0 && (Nat.beq z4 1 && (Nat.beq z5 9 && (Nat.beq z6 2 && (Nat.beq z7 2 && (Nat.beq z8 76))))))) with
    | true => some (wdsR f a0 a1 a2 a3 a4 a5 a6 a7)
    | false => none
  | _, _ => none
theorem wdsSpec_ok (la : List AV) (lh : List (Nat × AO)) (R : LR) (h : wdsSpec la lh = some R) : LocOk Tryd.prog 21 la lh R := by
  unfold wdsSpec at h
  split at h
  · rename_i z1 z2 z3 z4 z5 z6 a0 a1 a2 a3 a4 a5 a6 a7 z7 z8 f
    split at h
    · rename_i hb
      simp only [Bool.and_eq_true] at hb
      obtain ⟨e1, e2, e3, e4, e5, e6, e7, e8⟩ := hb
      have e1 := Nat.eq_of_beq_eq_true e1; subst e1
      have e2 := Nat.eq_of_beq_eq_true e2; subst e2
      have e3 := Nat.eq_of_beq_eq_true e3; subst e3
      have e4 := Nat.eq_of_beq_eq_true e4; subst e4
      have e5 := Nat.eq_of_beq_eq_true e5; subst e5
      have e6 := Nat.eq_of_beq_eq_true e6; subst e6
      have e7 := Nat.eq_of_beq_eq_true e7; subst e7
      have e8 := Nat.eq_of_beq_eq_true e8; subst e8
      cases h
      exact wds_loc f a0 a1 a2 a3 a4 a5 a6 a7
    · cases h
  · cases h
/-- As the words are said to be the rows of a given list. -/
noncomputable def wdlR (l : List (K3 × Int)) (f : List Int → Option Int) (a0 a1 a2 a3 a4 a5 a6 a7 : AV) : LR := ⟨2, .ss 4 3 0 l.length (some l.length), [(3, .arr 4 wSh false l.length (wdF (wdAt l))), (1, .cells 9 [.map 2, a0, a1, a2, a3, a4, a5, a6, a7]), (2, .map 76 f)], 1, [], [FinM f 1000000, wlF f = l]⟩
theorem wdl_loc (l : List (K3 × Int)) (f : List Int → Option Int) (a0 a1 a2 a3 a4 a5 a6 a7 : AV) : LocOk Tryd.prog 21 [.ptr 1 0 0] [(1, .cells 9 [.map 2, a0, a1, a2, a3, a4, a5, a6, a7]), (2, .map 76 f)] (wdlR l f a0 a1 a2 a3 a4 a5 a6 a7) := by
  intro ρ w hob
  have h2 : wlF f = l := hob _ (List.mem_cons_of_mem _ (List.mem_cons_self ..))
  subst h2
  exact wds_loc f a0 a1 a2 a3 a4 a5 a6 a7 ρ w (ob_cons (hob _ (List.mem_cons_self ..)) ob_nil)
noncomputable def wdlSpec (l : List (K3 × Int)) : LSpec := fun la lh => match la, lh with
  | [.ptr z1 z2 z3], [(z4, .cells z5 [.map z6, a0, a1, a2, a3, a4, a5, a6, a7]), (z7, .map z8 f)] =>
    match Nat.beq z1 1 && (Nat.beq z2 0 && (Nat.beq z3 0 && (Nat.beq z4 1 && (Nat.beq z5 9 && (Nat.beq z6 2 && (Nat.beq z7 2 && (Nat.beq z8 76))))))) with
    | true => some (wdlR l f a0 a1 a2 a3 a4 a5 a6 a7)
    | false => none
  | _, _ => none
theorem wdlSpec_ok (l : List (K3 × Int)) (la : List AV) (lh : List (Nat × AO)) (R : LR) (h : wdlSpec l la lh = some R) : LocOk Tryd.prog 21 la lh R := by
  unfold wdlSpec at h
  split at h
  · rename_i z1 z2 z3 z4 z5 z6 a0 a1 a2 a3 a4 a5 a6 a7 z7 z8 f
    split at h
    · rename_i hb
      simp only [Bool.and_eq_true] at hb
      obtain ⟨e1, e2, e3, e4, e5, e6, e7, e8⟩ := hb
      have e1 := Nat.eq_of_beq_eq_true e1; subst e1
      have e2 := Nat.eq_of_beq_eq_true e2; subst e2
      have e3 := Nat.eq_of_beq_eq_true e3; subst e3
      have e4 := Nat.eq_of_beq_eq_true e4; subst e4
      have e5 := Nat.eq_of_beq_eq_true e5; subst e5
      have e6 := Nat.eq_of_beq_eq_true e6; subst e6
      have e7 := Nat.eq_of_beq_eq_true e7; subst e7
      have e8 := Nat.eq_of_beq_eq_true e8; subst e8
      cases h
      exact wdl_loc l f a0 a1 a2 a3 a4 a5 a6 a7
    · cases h
  · cases h
end Go.Proofs.YtmlfmmnnbdlabaaDoor
