/-
  The example of chapter 17.
-/
import Derived.Test.YtmlfmmnnbdlabaaNMemC
import Derived.Test.YtmlfmmnnbdlabaaEvDoor
set_option linter.unusedSimpArgs false
set_option linter.unusedVariables false
namespace Go.Proofs.Ytmlfmmnnbdlabaa
open Go.Ev
theorem l17_run : (callF EMC 20000 46 [] ⟨[], 0, gnm 0, [], [], [], true⟩).map (fun x => (x.1, x.2.ob)) = some (.bool true, []) := by kernel_rfl
noncomputable def l17Spec : LSpec := fun la lh => match la, lh with
  | [], [] => some ⟨0, .bool true, [], 0, [], []⟩
  | _, _ => none
theorem l17Spec_ok (la : List AV) (lh : List (Nat × AO)) (R : LR) (h : l17Spec la lh = some R) : LocOk Try.prog 46 la lh R := by
  unfold l17Spec at h
  split at h
  · cases h; exact lives_of_run EMC_ok l17_run
  · cases h
end Go.Proofs.Ytmlfmmnnbdlabaa
