/-
  Contracts at closed keys: no obligation is left.
-/
import Derived.Test.YtmndhjodbnojdaaDoorEvLoop
set_option linter.unusedSimpArgs false
set_option linter.unusedVariables false
namespace Go.Ev
def nonneg : Int → Bool
  | .ofNat _ => true
  | .negSucc _ => false
theorem nonneg_ok {n : Int} (h : nonneg n = true) : 0 ≤ n := by
  cases n with
  | ofNat m => exact Int.natCast_nonneg m
  | negSucc m => cases h
def dropK (s : LSpec) : LSpec := fun la lh => match la with
  | a :: .agg (.int k n :: r) :: t => match nonneg n, s (nrmL (a :: .agg (.int k n :: r) :: t)) (nrmH lh) with
    | true, some R => some ⟨R.k, R.v, R.heap, R.n, R.wr, []⟩
    | _, _ => none
  | _ => none
theorem dropK_ok {P : Program} {f : FuncId} {s : LSpec} (hs : SpecOk P f s) (H : ∀ la lh R, s la lh = some R → ∀ k n a r t, la = a :: .agg (.sym k n :: r) :: t → 0 ≤ n → ∀ p ∈ R.ob, p) : SpecOk P f (dropK s) := by
  intro la lh R h
  unfold dropK at h
  split at h
  case h_2 => cases h
  rename_i a k n r t
  split at h
  case h_2 => cases h
  rename_i R0 hn hR
  cases h
  have hob : ∀ p ∈ R0.ob, p := H _ _ _ hR k n (nrmV a) (nrmL r) (nrmL t) (by simp [nrmL, nrmV]) (nonneg_ok hn)
  have := loc_nrm (hs _ _ _ hR)
  intro ρ w _ hr hf hg xs hx
  exact this ρ w hob hr hf hg xs hx
end Go.Ev
