/-
  KRlDef and what follows it.
-/
import Derived.Test.YtlpcdjhojfopjaaDoorKBeg
import Derived.Test.YtlpcdjhojfopjaaDoorKPair
import Derived.Test.YtlpcdjhojfopjaaDoorEvFam
import Derived.Test.YtlpcdjhojfopjaaDoorEvDoor
/-
  less: definitions.
-/
set_option linter.unusedSimpArgs false
set_option linter.unusedVariables false
namespace Go.Proofs.YtlpcdjhojfopjaaDoor
open Go.Ev

noncomputable def rlsH (k a f k2 a2 f2 : Int) : List (Nat × AO) := []
noncomputable def rlsR (k a f k2 a2 f2 : Int) : LR := ⟨0, .symb (ltB (k, a, f) (k2, a2, f2)), [], 0, [], []⟩
end Go.Proofs.YtlpcdjhojfopjaaDoor

/-
  less.
-/
set_option linter.unusedSimpArgs false
set_option linter.unusedVariables false
namespace Go.Proofs.YtlpcdjhojfopjaaDoor
open Go.Ev
theorem rls_1 (k a f k2 a2 f2 : Int) : callB EM0 2000 109 [AV.agg [AV.sym IntKind.u8 k, AV.sym IntKind.i64 a, AV.sym IntKind.i64 f], AV.agg [AV.sym IntKind.u8 k2, AV.sym IntKind.i64 a2, AV.sym IntKind.i64 f2]] (rlsH k a f k2 a2 f2) (rlsR k a f k2 a2 f2) [] [Hint.b true] =
 some ([decide (k < k2) = ltB (k, a, f) (k2, a2, f2),
 (k != k2) = true]) := by kernel_rfl
theorem rls_2 (k a f k2 a2 f2 : Int) : callB EM0 2000 109 [AV.agg [AV.sym IntKind.u8 k, AV.sym IntKind.i64 a, AV.sym IntKind.i64 f], AV.agg [AV.sym IntKind.u8 k2, AV.sym IntKind.i64 a2, AV.sym IntKind.i64 f2]] (rlsH k a f k2 a2 f2) (rlsR k a f k2 a2 f2) [] [Hint.b false, Hint.b true] =
 some ([decide (a < a2) = ltB (k, a, f) (k2, a2, f2),
 (a != a2) = true,
 (k != k2) = false]) := by kernel_rfl
theorem rls_3 (k a f k2 a2 f2 : Int) : callB EM0 2000 109 [AV.agg [AV.sym IntKind.u8 k, AV.sym IntKind.i64 a, AV.sym IntKind.i64 f], AV.agg [AV.sym IntKind.u8 k2, AV.sym IntKind.i64 a2, AV.sym IntKind.i64 f2]] (rlsH k a f k2 a2 f2) (rlsR k a f k2 a2 f2) [] [Hint.b false, Hint.b false] =
 some ([decide (f < f2) = ltB (k, a, f) (k2, a2, f2),
 (a != a2) = false,
 (k != k2) = false]) := by kernel_rfl
theorem rls_loc (k a f k2 a2 f2 : Int) : LocOk Tryd.prog 109 [.agg [.sym .u8 k, .sym .i64 a, .sym .i64 f], .agg [.sym .u8 k2, .sym .i64 a2, .sym .i64 f2]] (rlsH k a f k2 a2 f2) (rlsR k a f k2 a2 f2) := by
  refine loc_of_call EM0_ok (fun hp => ?_)
  clear hp
  cases h1 : (k != k2) with
  | true =>
    refine ⟨2000, _, _, _, rls_1 .., (ob_cons ?_ (ob_cons h1 ob_nil))⟩
    ·
      first | rfl | (unfold ltB; rw [decide_eq_decide]; unfold ltK; simp at *; omega)
  | false =>
    cases h2 : (a != a2) with
    | true =>
      refine ⟨2000, _, _, _, rls_2 .., (ob_cons ?_ (ob_cons h2 (ob_cons h1 ob_nil)))⟩
      ·
        first | rfl | (unfold ltB; rw [decide_eq_decide]; unfold ltK; simp at *; omega)
    | false =>
      refine ⟨2000, _, _, _, rls_3 .., (ob_cons ?_ (ob_cons h2 (ob_cons h1 ob_nil)))⟩
      ·
        first | rfl | (unfold ltB; rw [decide_eq_decide]; unfold ltK; simp at *; omega)
noncomputable def rlsSpec : LSpec := fun la lh => match la, lh with
  | [.agg [.sym .u8 k, .sym .i64 a, .sym .i64 f], .agg [.sym .u8 k2, .sym .i64 a2, .sym .i64 f2]], [] => some (rlsR k a f k2 a2 f2)
  | _, _ => none
theorem rlsSpec_ok (la : List AV) (lh : List (Nat × AO)) (R : LR) (h : rlsSpec la lh = some R) : LocOk Tryd.prog 109 la lh R := by
  unfold rlsSpec at h
  split at h
  · rename_i k a f k2 a2 f2
    cases h
    exact rls_loc k a f k2 a2 f2
  · cases h

end Go.Proofs.YtlpcdjhojfopjaaDoor
