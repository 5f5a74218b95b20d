/-
  The example of chapter 14.
-/
import Derived.Test.YtmlfmmnnbdlabaaNMemC
import Derived.Test.YtmlfmmnnbdlabaaEvDoor
set_option linter.unusedSimpArgs false
set_option linter.unusedVariables false
namespace Go.Proofs.Ytmlfmmnnbdlabaa
open Go.Ev
theorem l14_run : (callF EMC 20000 29 [] ⟨[], 0, gnm 0, [], [], [], true⟩).map (fun x => (x.1, x.2.ob)) = some (.symb true, []) := by kernel_rfl
noncomputable def l14Spec : LSpec := fun la lh => match la, lh with
  | [], [] => some ⟨0, .bool true, [], 0, [], []⟩
  | _, _ => none
theorem l14Spec_ok (la : List AV) (lh : List (Nat × AO)) (R : LR) (h : l14Spec la lh = some R) : LocOk Try.prog 29 la lh R := by
  unfold l14Spec at h
  split at h
  · cases h; exact lives_of_run_s EMC_ok l14_run
  · cases h
end Go.Proofs.Ytmlfmmnnbdlabaa
