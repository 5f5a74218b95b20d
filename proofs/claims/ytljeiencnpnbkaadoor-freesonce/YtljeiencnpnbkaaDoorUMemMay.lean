/-
  May an address be: the document's answer, the program's.
-/
import Derived.Test.YtljeiencnpnbkaaDoorUMemDef
set_option linter.unusedSimpArgs false
set_option linter.unusedVariables false
namespace Go.Proofs.YtljeiencnpnbkaaDoor
open Go.Ev
def nR (k : Int) : Nat := if k = 6 then 2 else if k = 7 then 3 else if k = 8 then 4 else if k = 9 then 5 else if k = 10 then 6 else 7
def nM (k : Int) : Nat := if k ≤ 4 then k.toNat + 2 else k.toNat + 1
theorem kinds {k : Int} (h : 0 ≤ k) (h1 : k ≤ 11) : k = 0 ∨ k = 1 ∨ k = 2 ∨ k = 3 ∨ k = 4 ∨ k = 5 ∨ k = 6 ∨ k = 7 ∨ k = 8 ∨ k = 9 ∨ k = 10 ∨ k = 11 := by omega
abbrev myA (k a f : Int) : List AV := [.agg [.sym .u8 k, .sym .i64 a, .sym .i64 f]]
section
variable (k a f : Int) (h : 0 ≤ k) (h1 : k ≤ 11)
include h h1
theorem mmay_1 : callB EM0 2000 117 (myA k a f) [] (mayR k a f) [] [.k (nM k), .b true, .b true, .b true] = some [decide (f < kFl k) = mayA k a f, decide (f ≥ 0) = true, decide (a < kAt k) = true, decide (a ≥ 0) = true] := by
  rcases kinds h h1 with rfl | rfl | rfl | rfl | rfl | rfl | rfl | rfl | rfl | rfl | rfl | rfl <;> kernel_rfl
theorem mmay_2 : callB EM0 2000 117 (myA k a f) [] (mayR k a f) [] [.k (nM k), .b true, .b true, .b false] = some [false = mayA k a f, decide (f ≥ 0) = false, decide (a < kAt k) = true, decide (a ≥ 0) = true] := by
  rcases kinds h h1 with rfl | rfl | rfl | rfl | rfl | rfl | rfl | rfl | rfl | rfl | rfl | rfl <;> kernel_rfl
theorem mmay_3 : callB EM0 2000 117 (myA k a f) [] (mayR k a f) [] [.k (nM k), .b true, .b false] = some [false = mayA k a f, decide (a < kAt k) = false, decide (a ≥ 0) = true] := by
  rcases kinds h h1 with rfl | rfl | rfl | rfl | rfl | rfl | rfl | rfl | rfl | rfl | rfl | rfl <;> kernel_rfl
theorem mmay_4 : callB EM0 2000 117 (myA k a f) [] (mayR k a f) [] [.k (nM k), .b false] = some [false = mayA k a f, decide (a ≥ 0) = false] := by
  rcases kinds h h1 with rfl | rfl | rfl | rfl | rfl | rfl | rfl | rfl | rfl | rfl | rfl | rfl <;> kernel_rfl
end
abbrev fs12 : List Hint := [.b false, .b false, .b false, .b false, .b false, .b false, .b false, .b false, .b false, .b false, .b false, .b false]
abbrev ne12 (k : Int) : List Prop := [(k == 11) = false, (k == 10) = false, (k == 9) = false, (k == 8) = false, (k == 7) = false, (k == 6) = false, (k == 5) = false, (k == 4) = false, (k == 3) = false, (k == 2) = false, (k == 1) = false, (k == 0) = false]
theorem mmay_5 (k a f : Int) : callB EM0 2000 117 (myA k a f) [] (mayR k a f) [] (fs12 ++ [.b true, .b false]) = some ([false = mayA k a f, decide (a < 0) = false, decide (a ≥ 0) = true] ++ ne12 k) := by kernel_rfl
theorem mmay_6 (k a f : Int) : callB EM0 2000 117 (myA k a f) [] (mayR k a f) [] (fs12 ++ [.b false]) = some ([false = mayA k a f, decide (a ≥ 0) = false] ++ ne12 k) := by kernel_rfl
theorem kNe {k c : Int} (h : k ≠ c) : (k == c) = false := by simpa using h
theorem mayT {k a f : Int} (h1 : k ≤ 11) (h2 : 0 ≤ a) (h3 : a < kAt k) (h4 : 0 ≤ f) : decide (f < kFl k) = mayA k a f := by simp [mayA, h1, h2, h3, h4]
theorem mayF {k a f : Int} (h : ¬ (k ≤ 11 ∧ 0 ≤ a ∧ a < kAt k ∧ 0 ≤ f)) : false = mayA k a f := by
  cases hm : mayA k a f with
  | false => rfl
  | true =>
    have := of_decide_eq_true hm
    exact (h ⟨this.1, this.2.1, this.2.2.1, this.2.2.2.1⟩).elim
theorem mmay_loc (k a f : Int) : LocOk Tryd.prog 117 (myA k a f) [] (mayR k a f) := by
  refine loc_of_call EM0_ok (fun hp => ?_)
  have hk : 0 ≤ k := hp _ (List.mem_cons_self ..)
  by_cases h1 : k ≤ 11
  · by_cases h2 : 0 ≤ a
    · by_cases h3 : a < kAt k
      · by_cases h4 : 0 ≤ f
        · exact ⟨2000, _, _, _, mmay_1 k a f hk h1, cj ⟨mayT h1 h2 h3 h4, decide_eq_true h4, decide_eq_true h3, decide_eq_true h2, trivial⟩⟩
        · exact ⟨2000, _, _, _, mmay_2 k a f hk h1, cj ⟨mayF (fun h => h4 h.2.2.2), decide_eq_false h4, decide_eq_true h3, decide_eq_true h2, trivial⟩⟩
      · exact ⟨2000, _, _, _, mmay_3 k a f hk h1, cj ⟨mayF (fun h => h3 h.2.2.1), decide_eq_false h3, decide_eq_true h2, trivial⟩⟩
    · exact ⟨2000, _, _, _, mmay_4 k a f hk h1, cj ⟨mayF (fun h => h2 h.2.1), decide_eq_false h2, trivial⟩⟩
  · have ne : ∀ p ∈ ne12 k, p := cj ⟨kNe (by omega), kNe (by omega), kNe (by omega), kNe (by omega), kNe (by omega), kNe (by omega), kNe (by omega), kNe (by omega), kNe (by omega), kNe (by omega), kNe (by omega), kNe (by omega), trivial⟩
    by_cases h2 : 0 ≤ a
    · exact ⟨2000, _, _, _, mmay_5 k a f, ob_app (cj ⟨mayF (fun h => h1 h.1), decide_eq_false (by omega), decide_eq_true h2, trivial⟩) ne⟩
    · exact ⟨2000, _, _, _, mmay_6 k a f, ob_app (cj ⟨mayF (fun h => h1 h.1), decide_eq_false h2, trivial⟩) ne⟩
noncomputable def mmaySpec : LSpec := fun la lh => match la, lh with
  | [.agg [.sym .u8 k, .sym .i64 a, .sym .i64 f]], [] => some (mayR k a f)
  | _, _ => none
theorem mmaySpec_ok (la : List AV) (lh : List (Nat × AO)) (R : LR) (h : mmaySpec la lh = some R) : LocOk Tryd.prog 117 la lh R := by
  unfold mmaySpec at h
  split at h
  · cases h
    exact mmay_loc _ _ _
  · cases h
noncomputable def EM1 : Env := envOf Tryd.prog [(117, nrm mmaySpec)]
theorem EM1_ok : EnvOk EM1 := envOf_ok mgood ⟨nrm_ok mmaySpec_ok, trivial⟩
end Go.Proofs.YtljeiencnpnbkaaDoor
