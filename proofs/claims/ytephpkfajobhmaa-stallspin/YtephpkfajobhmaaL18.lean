/-
  The example of chapter 18.
-/
import Derived.Test.YtephpkfajobhmaaWFi
import Derived.Test.YtephpkfajobhmaaWMemC
namespace Go.Proofs.Ytephpkfajobhmaa
open Go.Ev
noncomputable def EFl : Env := envG Try.prog [(35, flcSP), (15, rawSP (dropK mstSpec)), (16, rawSP (dropK mldSpec)), (17, rawSP (dropK mcsSpec))]
theorem EFl_ok : EnvOk EFl := envG_ok mgood ⟨flcSP_ok, rawSP_ok (dropK_ok mstSpec_ok mst_obs), rawSP_ok (dropK_ok mldSpec_ok mld_obs), rawSP_ok (dropK_ok mcsSpec_ok mcs_obs), trivial⟩
theorem l18_run : (callF EFl 8000 34 [] ⟨[], 0, gnm 0, [], [], [], true⟩).map (fun x => (x.1, x.2.ob)) = some (.symb true, []) := by kernel_rfl
noncomputable def l18Spec : LSpec := fun la lh => match la, lh with
  | [], [] => some ⟨0, .bool true, [], 0, [], []⟩
  | _, _ => none
theorem l18Spec_ok (la : List AV) (lh : List (Nat × AO)) (R : LR) (h : l18Spec la lh = some R) : LocOk Try.prog 34 la lh R := by
  unfold l18Spec at h
  split at h
  · cases h; exact lives_of_run_s EFl_ok l18_run
  · cases h
end Go.Proofs.Ytephpkfajobhmaa
