/-
  Chapter 14: Word of a thread.
-/
import Derived.Test.YtmlfmmnnbdlabaaDoorQTkDef
import Derived.Test.YtmlfmmnnbdlabaaDoorEvLoc2
set_option linter.unusedSimpArgs false
set_option linter.unusedVariables false
namespace Go.Proofs.YtmlfmmnnbdlabaaDoor
open Go.Ev
noncomputable def wd10 (x0 x1 x2 x3 x4 x5 x6 x7 x8 x9 f : Int) : Int := if f = 0 then x0 else if f = 1 then x1 else if f = 2 then x2 else if f = 3 then x3 else if f = 4 then x4 else if f = 5 then x5 else if f = 6 then x6 else if f = 7 then x7 else if f = 8 then x8 else x9
noncomputable def wtR (x0 x1 x2 x3 x4 x5 x6 x7 x8 x9 f : Int) : LR := ⟨0, .sym .u64 (wd10 x0 x1 x2 x3 x4 x5 x6 x7 x8 x9 f), [], 0, [], [0 ≤ f, f < 10]⟩
theorem wt_0 (x0 x1 x2 x3 x4 x5 x6 x7 x8 x9 f : Int) : callB EMo3 2000 30 [.agg [.sym .u64 x0, .sym .u64 x1, .sym .u64 x2, .sym .u64 x3, .sym .u64 x4, .sym .u64 x5, .sym .u64 x6, .sym .u64 x7, .sym .u64 x8, .sym .u64 x9], .sym .i64 f] [] ⟨0, .sym .u64 (wd10 x0 x1 x2 x3 x4 x5 x6 x7 x8 x9 f), [], 0, [], []⟩ [] [.b false, .b false, .n 0] = some [x0 = wd10 x0 x1 x2 x3 x4 x5 x6 x7 x8 x9 f, f = 0, decide (f ≥ 10) = false, decide (f < 0) = false] := by kernel_rfl
theorem wt_1 (x0 x1 x2 x3 x4 x5 x6 x7 x8 x9 f : Int) : callB EMo3 2000 30 [.agg [.sym .u64 x0, .sym .u64 x1, .sym .u64 x2, .sym .u64 x3, .sym .u64 x4, .sym .u64 x5, .sym .u64 x6, .sym .u64 x7, .sym .u64 x8, .sym .u64 x9], .sym .i64 f] [] ⟨0, .sym .u64 (wd10 x0 x1 x2 x3 x4 x5 x6 x7 x8 x9 f), [], 0, [], []⟩ [] [.b false, .b false, .n 1] = some [x1 = wd10 x0 x1 x2 x3 x4 x5 x6 x7 x8 x9 f, f = 1, decide (f ≥ 10) = false, decide (f < 0) = false] := by kernel_rfl
theorem wt_2 (x0 x1 x2 x3 x4 x5 x6 x7 x8 x9 f : Int) : callB EMo3 2000 30 [.agg [.sym .u64 x0, .sym .u64 x1, .sym .u64 x2, .sym .u64 x3, .sym .u64 x4, .sym .u64 x5, .sym .u64 x6, .sym .u64 x7, .sym .u64 x8, .sym .u64 x9], .sym .i64 f] [] ⟨0, .sym .u64 (wd10 x0 x1 x2 x3 x4 x5 x6 x7 x8 x9 f), [], 0, [], []⟩ [] [.b false, .b false, .n 2] = some [x2 = wd10 x0 x1 x2 x3 x4 x5 x6 x7 x8 x9 f, f = 2, decide (f ≥ 10) = false, decide (f < 0) = false] := by kernel_rfl
theorem wt_3 (x0 x1 x2 x3 x4 x5 x6 x7 x8 x9 f : Int) : callB EMo3 2000 30 [.agg [.sym .u64 x0, .sym .u64 x1, .sym .u64 x2, .sym .u64 x3, .sym .u64 x4, .sym .u64 x5, .sym .u64 x6, .sym .u64 x7, .sym .u64 x8, .sym .u64 x9], .sym .i64 f] [] ⟨0, .sym .u64 (wd10 x0 x1 x2 x3 x4 x5 x6 x7 x8 x9 f), [], 0, [], []⟩ [] [.b false, .b false, .n 3] = some [x3 = wd10 x0 x1 x2 x3 x4 x5 x6 x7 x8 x9 f, f = 3, decide (f ≥ 10) = false, decide (f < 0) = false] := by kernel_rfl
theorem wt_4 (x0 x1 x2 x3 x4 x5 x6 x7 x8 x9 f : Int) : callB EMo3 2000 30 [.agg [.sym .u64 x0, .sym .u64 x1, .sym .u64 x2, .sym .u64 x3, .sym .u64 x4, .sym .u64 x5, .sym .u64 x6, .sym .u64 x7, .sym .u64 x8, .sym .u64 x9], .sym .i64 f] [] ⟨0, .sym .u64 (wd10 x0 x1 x2 x3 x4 x5 x6 x7 x8 x9 f), [], 0, [], []⟩ [] [.b false, .b false, .n 4] = some [x4 = wd10 x0 x1 x2 x3 x4 x5 x6 x7 x8 x9 f, f = 4, decide (f ≥ 10) = false, decide (f < 0) = false] := by kernel_rfl
theorem wt_5 (x0 x1 x2 x3 x4 x5 x6 x7 x8 x9 f : Int) : callB EMo3 2000 30 [.agg [.sym .u64 x0, .sym .u64 x1, .sym .u64 x2, .sym .u64 x3, .sym .u64 x4, .sym .u64 x5, .sym .u64 x6, .sym .u64 x7, .sym .u64 x8, .sym .u64 x9], .sym .i64 f] [] ⟨0, .sym .u64 (wd10 x0 x1 x2 x3 x4 x5 x6 x7 x8 x9 f), [], 0, [], []⟩ [] [.b false, .b false, .n 5] = some [x5 = wd10 x0 x1 x2 x3 x4 x5 x6 x7 x8 x9 f, f = 5, decide (f ≥ 10) = false, decide (f < 0) = false] := by kernel_rfl
theorem wt_6 (x0 x1 x2 x3 x4 x5 x6 x7 x8 x9 f : Int) : callB EMo3 2000 30 [.agg [.sym .u64 x0, .sym .u64 x1, .sym .u64 x2, .sym .u64 x3, .sym .u64 x4, .sym .u64 x5, .sym .u64 x6, .sym .u64 x7, .sym .u64 x8, .sym .u64 x9], .sym .i64 f] [] ⟨0, .sym .u64 (wd10 x0 x1 x2 x3 x4 x5 x6 x7 x8 x9 f), [], 0, [], []⟩ [] [.b false, .b false, .n 6] = some [x6 = wd10 x0 x1 x2 x3 x4 x5 x6 x7 x8 x9 f, f = 6, decide (f ≥ 10) = false, decide (f < 0) = false] := by kernel_rfl
theorem wt_7 (x0 x1 x2 x3 x4 x5 x6 x7 x8 x9 f : Int) : callB EMo3 2000 30 [.agg [.sym .u64 x0, .sym .u64 x1, .sym .u64 x2, .sym .u64 x3, .sym .u64 x4, .sym .u64 x5, .sym .u64 x6, .sym .u64 x7, .sym .u64 x8, .sym .u64 x9], .sym .i64 f] [] ⟨0, .sym .u64 (wd10 x0 x1 x2 x3 x4 x5 x6 x7 x8 x9 f), [], 0, [], []⟩ [] [.b false, .b false, .n 7] = some [x7 = wd10 x0 x1 x2 x3 x4 x5 x6 x7 x8 x9 f, f = 7, decide (f ≥ 10) = false, decide (f < 0) = false] := by kernel_rfl
theorem wt_8 (x0 x1 x2 x3 x4 x5 x6 x7 x8 x9 f : Int) : callB EMo3 2000 30 [.agg [.sym .u64 x0, .sym .u64 x1, .sym .u64 x2, .sym .u64 x3, .sym .u64 x4, .sym .u64 x5, .sym .u64 x6, .sym .u64 x7, .sym .u64 x8, .sym .u64 x9], .sym .i64 f] [] ⟨0, .sym .u64 (wd10 x0 x1 x2 x3 x4 x5 x6 x7 x8 x9 f), [], 0, [], []⟩ [] [.b false, .b false, .n 8] = some [x8 = wd10 x0 x1 x2 x3 x4 x5 x6 x7 x8 x9 f, f = 8, decide (f ≥ 10) = false, decide (f < 0) = false] := by kernel_rfl
theorem wt_9 (x0 x1 x2 x3 x4 x5 x6 x7 x8 x9 f : Int) : callB EMo3 2000 30 [.agg [.sym .u64 x0, .sym .u64 x1, .sym .u64 x2, .sym .u64 x3, .sym .u64 x4, .sym .u64 x5, .sym .u64 x6, .sym .u64 x7, .sym .u64 x8, .sym .u64 x9], .sym .i64 f] [] ⟨0, .sym .u64 (wd10 x0 x1 x2 x3 x4 x5 x6 x7 x8 x9 f), [], 0, [], []⟩ [] [.b false, .b false, .n 9] = some [x9 = wd10 x0 x1 x2 x3 x4 x5 x6 x7 x8 x9 f, f = 9, decide (f ≥ 10) = false, decide (f < 0) = false] := by kernel_rfl
theorem wt_loc (x0 x1 x2 x3 x4 x5 x6 x7 x8 x9 f : Int) : LocOk Tryd.prog 30 [.agg [.sym .u64 x0, .sym .u64 x1, .sym .u64 x2, .sym .u64 x3, .sym .u64 x4, .sym .u64 x5, .sym .u64 x6, .sym .u64 x7, .sym .u64 x8, .sym .u64 x9], .sym .i64 f] [] (wtR x0 x1 x2 x3 x4 x5 x6 x7 x8 x9 f) := by
  intro ρ w hob
  have h0 : 0 ≤ f := hob _ (List.mem_cons_self ..)
  have h1 : f < 10 := hob _ (List.mem_cons_of_mem _ (List.mem_cons_self ..))
  clear hob
  revert ρ w
  have base : ∀ (hh : List Hint) (ob : List Prop), callB EMo3 2000 30 [.agg [.sym .u64 x0, .sym .u64 x1, .sym .u64 x2, .sym .u64 x3, .sym .u64 x4, .sym .u64 x5, .sym .u64 x6, .sym .u64 x7, .sym .u64 x8, .sym .u64 x9], .sym .i64 f] [] ⟨0, .sym .u64 (wd10 x0 x1 x2 x3 x4 x5 x6 x7 x8 x9 f), [], 0, [], []⟩ [] hh = some ob → (∀ p ∈ ob, p) → ∀ (ρ : Ren) (w : World), _ := fun hh ob h1 h2 ρ w => (loc_of_call EMo3_ok (R := ⟨0, .sym .u64 (wd10 x0 x1 x2 x3 x4 x5 x6 x7 x8 x9 f), [], 0, [], []⟩) (fun _ => ⟨2000, hh, [], ob, h1, h2⟩)) ρ w (fun p hp => by cases hp)
  have g1 : decide (f < 0) = false := decide_eq_false (by omega)
  have g2 : decide (f ≥ 10) = false := decide_eq_false (by omega)
  rcases (show f = 0 ∨ f = 1 ∨ f = 2 ∨ f = 3 ∨ f = 4 ∨ f = 5 ∨ f = 6 ∨ f = 7 ∨ f = 8 ∨ f = 9 by omega) with e | e | e | e | e | e | e | e | e | e
  · exact base _ _ (wt_0 x0 x1 x2 x3 x4 x5 x6 x7 x8 x9 f) (cj ⟨by subst e; rfl, e, g2, g1, trivial⟩)
  · exact base _ _ (wt_1 x0 x1 x2 x3 x4 x5 x6 x7 x8 x9 f) (cj ⟨by subst e; rfl, e, g2, g1, trivial⟩)
  · exact base _ _ (wt_2 x0 x1 x2 x3 x4 x5 x6 x7 x8 x9 f) (cj ⟨by subst e; rfl, e, g2, g1, trivial⟩)
  · exact base _ _ (wt_3 x0 x1 x2 x3 x4 x5 x6 x7 x8 x9 f) (cj ⟨by subst e; rfl, e, g2, g1, trivial⟩)
  · exact base _ _ (wt_4 x0 x1 x2 x3 x4 x5 x6 x7 x8 x9 f) (cj ⟨by subst e; rfl, e, g2, g1, trivial⟩)
  · exact base _ _ (wt_5 x0 x1 x2 x3 x4 x5 x6 x7 x8 x9 f) (cj ⟨by subst e; rfl, e, g2, g1, trivial⟩)
  · exact base _ _ (wt_6 x0 x1 x2 x3 x4 x5 x6 x7 x8 x9 f) (cj ⟨by subst e; rfl, e, g2, g1, trivial⟩)
  · exact base _ _ (wt_7 x0 x1 x2 x3 x4 x5 x6 x7 x8 x9 f) (cj ⟨by subst e; rfl, e, g2, g1, trivial⟩)
  · exact base _ _ (wt_8 x0 x1 x2 x3 x4 x5 x6 x7 x8 x9 f) (cj ⟨by subst e; rfl, e, g2, g1, trivial⟩)
  · exact base _ _ (wt_9 x0 x1 x2 x3 x4 x5 x6 x7 x8 x9 f) (cj ⟨by subst e; rfl, e, g2, g1, trivial⟩)
noncomputable def wtSpec : LSpec := fun la lh => match la, lh with
  | [.agg [.sym .u64 x0, .sym .u64 x1, .sym .u64 x2, .sym .u64 x3, .sym .u64 x4, .sym .u64 x5, .sym .u64 x6, .sym .u64 x7, .sym .u64 x8, .sym .u64 x9], .sym .i64 f], [] => some (wtR x0 x1 x2 x3 x4 x5 x6 x7 x8 x9 f)
  | _, _ => none
theorem wtSpec_ok (la : List AV) (lh : List (Nat × AO)) (R : LR) (h : wtSpec la lh = some R) : LocOk Tryd.prog 30 la lh R := by
  unfold wtSpec at h
  split at h
  · rename_i x0 x1 x2 x3 x4 x5 x6 x7 x8 x9 f
    cases h
    exact wt_loc x0 x1 x2 x3 x4 x5 x6 x7 x8 x9 f
  · cases h
end Go.Proofs.YtmlfmmnnbdlabaaDoor
