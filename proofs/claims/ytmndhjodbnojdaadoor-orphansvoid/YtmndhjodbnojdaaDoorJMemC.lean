/-
  The program's memory at closed keys.
-/
import Derived.Test.YtmndhjodbnojdaaDoorJMemOps
import Derived.Test.YtmndhjodbnojdaaDoorEvDropK
set_option linter.unusedSimpArgs false
set_option linter.unusedVariables false
namespace Go.Proofs.YtmndhjodbnojdaaDoor
open Go.Ev
theorem mst_obs : ∀ la lh R, mstSpec la lh = some R → ∀ k n a r t, la = a :: .agg (.sym k n :: r) :: t → 0 ≤ n → ∀ p ∈ R.ob, p := by
  intro la lh R h k n a r t e hn p hp
  unfold mstSpec at h
  split at h
  · split at h
    · cases h
      simp only [List.cons.injEq, AV.agg.injEq, AV.sym.injEq] at e
      simp only [storeR, List.mem_singleton] at hp
      subst hp
      obtain ⟨_, ⟨⟨_, e⟩, _⟩, _⟩ := e
      rw [e]; exact hn
    · cases h
  · cases h
theorem mld_obs : ∀ la lh R, mldSpec la lh = some R → ∀ k n a r t, la = a :: .agg (.sym k n :: r) :: t → 0 ≤ n → ∀ p ∈ R.ob, p := by
  intro la lh R h k n a r t e hn p hp
  unfold mldSpec at h
  split at h
  · split at h
    · cases h
      simp [loadR] at hp
    · cases h
  · cases h
theorem mcs_obs : ∀ la lh R, mcsSpec la lh = some R → ∀ k n a r t, la = a :: .agg (.sym k n :: r) :: t → 0 ≤ n → ∀ p ∈ R.ob, p := by
  intro la lh R h k n a r t e hn p hp
  unfold mcsSpec at h
  split at h
  · split at h
    · cases h
      simp only [List.cons.injEq, AV.agg.injEq, AV.sym.injEq] at e
      simp only [casR, List.mem_singleton] at hp
      subst hp
      obtain ⟨_, ⟨⟨_, e⟩, _⟩, _⟩ := e
      rw [e]; exact hn
    · cases h
  · cases h
noncomputable def EMC : Env := envG Tryd.prog [(25, rawSP (dropK mstSpec)), (18, rawSP (dropK mldSpec)), (160, rawSP (dropK mcsSpec))]
theorem EMC_ok : EnvOk EMC := envG_ok mgood ⟨rawSP_ok (dropK_ok mstSpec_ok mst_obs), rawSP_ok (dropK_ok mldSpec_ok mld_obs), rawSP_ok (dropK_ok mcsSpec_ok mcs_obs), trivial⟩
end Go.Proofs.YtmndhjodbnojdaaDoor
