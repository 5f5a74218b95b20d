/-
  The example of chapter 15.
-/
import Derived.Test.YtmlfmmnnbdlabaaNMemC
import Derived.Test.YtmlfmmnnbdlabaaEvLaw
set_option linter.unusedSimpArgs false
set_option linter.unusedVariables false
namespace Go.Proofs.Ytmlfmmnnbdlabaa
open Go.Ev
theorem l15_run : (callF EMC 8000 23 [] ⟨[], 0, gnm 0, [], [], [], true⟩).map (fun x => (x.1, x.2.ob)) = some (.symb true, []) := by kernel_rfl
noncomputable def l15Spec : LSpec := fun la lh => match la, lh with
  | [], [] => some ⟨0, .bool true, [], 0, [], []⟩
  | _, _ => none
theorem l15Spec_ok (la : List AV) (lh : List (Nat × AO)) (R : LR) (h : l15Spec la lh = some R) : LocOk Try.prog 23 la lh R := by
  unfold l15Spec at h
  split at h
  · cases h; exact lives_of_run_s EMC_ok l15_run
  · cases h
end Go.Proofs.Ytmlfmmnnbdlabaa
