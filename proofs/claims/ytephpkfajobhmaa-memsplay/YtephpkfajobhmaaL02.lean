/-
  The example of chapter 2.
-/
import Derived.Test.YtephpkfajobhmaaWWi
import Derived.Test.YtephpkfajobhmaaEvOpen
import Derived.Test.YtephpkfajobhmaaWMemDef
set_option linter.unusedSimpArgs false
set_option linter.unusedVariables false
namespace Go.Proofs.Ytephpkfajobhmaa
open Go.Ev
noncomputable def EL2 : Env := envG Try.prog [(20, rawSP (wdlSpec [((2, 0, 0), 6)]))]
theorem EL2_ok : EnvOk EL2 := envG_ok mgood ⟨rawSP_ok (wdlSpec_ok _), trivial⟩
def l2A : List Int → Option Int := setKey (setKey (fun _ => none) (key 2 0 0) (some (mval (fun _ => none) (key 2 0 0)))) (key 2 0 0) (some 5)
def l2M : List Int → Option Int := setKey (setKey l2A (key 2 0 0) (some (mval l2A (key 2 0 0)))) (key 2 0 0) (some 6)
theorem l02_run : (callF EL2 8000 21 [] ⟨[], 0, gnm 0, [], [], [], true⟩).map (fun x => (x.1, x.2.ob)) = some (.symb true, [FinM l2M 1000000, wlF l2M = [((2, 0, 0), 6)]]) := by kernel_rfl
theorem l2M_eq : l2M = setKey (fun _ => none) (key 2 0 0) (some 6) := by unfold l2M l2A; rw [setKey2, setKey2, setKey2]
theorem l02_loc : LocOk Try.prog 21 [] [] ⟨0, .bool true, [], 0, [], []⟩ := by
  refine lives_of_runG EL2_ok (.inr rfl) l02_run ?_
  rw [l2M_eq]
  refine ob_cons (((FinM.nil 0).set _ _).mono (by decide)) (ob_cons (wlF_one (fun k a b => ?_) (by decide)) ob_nil)
  rw [mget_set]; rfl
noncomputable def l02Spec : LSpec := fun la lh => match la, lh with
  | [], [] => some ⟨0, .bool true, [], 0, [], []⟩
  | _, _ => none
theorem l02Spec_ok (la : List AV) (lh : List (Nat × AO)) (R : LR) (h : l02Spec la lh = some R) : LocOk Try.prog 21 la lh R := by
  unfold l02Spec at h
  split at h
  · cases h; exact l02_loc
  · cases h
end Go.Proofs.Ytephpkfajobhmaa
