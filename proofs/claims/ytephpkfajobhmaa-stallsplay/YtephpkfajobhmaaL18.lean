/-
  L18 and what follows it.
-/
import Derived.Test.YtephpkfajobhmaaWFi
import Derived.Test.YtephpkfajobhmaaEvDropK
import Derived.Test.YtephpkfajobhmaaWPi
import Derived.Test.YtephpkfajobhmaaEvDoor
/-
  The example of chapter 18.
-/
namespace Go.Proofs.Ytephpkfajobhmaa
open Go.Ev
noncomputable def EFl : Env := envG Try.prog [(35, flcSP), (15, rawSP (dropK mstSpec)), (16, rawSP (dropK mldSpec)), (17, rawSP (dropK mcsSpec))]
theorem EFl_ok : EnvOk EFl := envG_ok mgood ⟨flcSP_ok, rawSP_ok (dropK_ok mstSpec_ok mst_obs), rawSP_ok (dropK_ok mldSpec_ok mld_obs), rawSP_ok (dropK_ok mcsSpec_ok mcs_obs), trivial⟩
theorem l18_run : (callF EFl 8000 34 [] ⟨[], 0, gnm 0, [], [], [], true⟩).map (fun x => (x.1, x.2.ob)) = some (.symb true, []) := by kernel_rfl
noncomputable def l18Spec : LSpec := fun la lh => match la, lh with
  | [], [] => some ⟨0, .bool true, [], 0, [], []⟩
  | _, _ => none
theorem l18Spec_ok (la : List AV) (lh : List (Nat × AO)) (R : LR) (h : l18Spec la lh = some R) : LocOk Try.prog 34 la lh R := by
  unfold l18Spec at h
  split at h
  · cases h; exact lives_of_run_s EFl_ok l18_run
  · cases h
end Go.Proofs.Ytephpkfajobhmaa

/-
  StallsPlay: definitions.
-/
set_option linter.unusedSimpArgs false
set_option linter.unusedVariables false
namespace Go.Proofs.Ytephpkfajobhmaa
open Go.Ev
noncomputable def EPj : Env := envG Try.prog ([(34, rawSP l18Spec), (32, locSP swwSpec), (31, locSP smeSpec)] ++ memSP)
theorem EPj_ok : EnvOk EPj := envG_ok mgood ⟨rawSP_ok l18Spec_ok, locSP_ok swwSpec_ok, locSP_ok smeSpec_ok, memSP_ok⟩
noncomputable def sjRun (m : Nat) (f : Nat → Nat → AV) (hh : List Hint) : Option (AV × List Prop × Bool) := (callF EPj 5000 9 [.ss 6 1 0 m none] ⟨[(1, .arr 6 asSh true m f)], 2, gnm 0, hh, [], [], false⟩).map (fun x => (x.1, x.2.ob, noneIn [(1, .arr 6 asSh true m f)] x.2.wr))
end Go.Proofs.Ytephpkfajobhmaa
