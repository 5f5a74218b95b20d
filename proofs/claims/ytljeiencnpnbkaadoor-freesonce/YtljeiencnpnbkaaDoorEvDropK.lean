/-
  EvDropK and what follows it.
-/
import Derived.Test.YtljeiencnpnbkaaDoorEvLoc2
import Derived.Test.YtljeiencnpnbkaaDoorUMemOps
import Derived.Test.YtljeiencnpnbkaaDoorUWd
/-
  Contracts at closed keys: no obligation is left.
-/
set_option linter.unusedSimpArgs false
set_option linter.unusedVariables false
namespace Go.Ev
def nonneg : Int → Bool
  | .ofNat _ => true
  | .negSucc _ => false
theorem nonneg_ok {n : Int} (h : nonneg n = true) : 0 ≤ n := by
  cases n with
  | ofNat m => exact Int.natCast_nonneg m
  | negSucc m => cases h
def dropK (s : LSpec) : LSpec := fun la lh => match la with
  | a :: .agg (.int k n :: r) :: t => match nonneg n, s (nrmL (a :: .agg (.int k n :: r) :: t)) (nrmH lh) with
    | true, some R => some ⟨R.k, R.v, R.heap, R.n, R.wr, []⟩
    | _, _ => none
  | _ => none
theorem dropK_ok {P : Program} {f : FuncId} {s : LSpec} (hs : SpecOk P f s) (H : ∀ la lh R, s la lh = some R → ∀ k n a r t, la = a :: .agg (.sym k n :: r) :: t → 0 ≤ n → ∀ p ∈ R.ob, p) : SpecOk P f (dropK s) := by
  intro la lh R h
  unfold dropK at h
  split at h
  case h_2 => cases h
  rename_i a k n r t
  split at h
  case h_2 => cases h
  rename_i R0 hn hR
  cases h
  have hob : ∀ p ∈ R0.ob, p := H _ _ _ hR k n (nrmV a) (nrmL r) (nrmL t) (by simp [nrmL, nrmV]) (nonneg_ok hn)
  have := loc_nrm (hs _ _ _ hR)
  intro ρ w _ hr hf hg xs hx
  exact this ρ w hob hr hf hg xs hx
end Go.Ev

/-
  The program's memory at closed keys.
-/
set_option linter.unusedSimpArgs false
set_option linter.unusedVariables false
namespace Go.Proofs.YtljeiencnpnbkaaDoor
open Go.Ev
theorem mst_obs : ∀ la lh R, mstSpec la lh = some R → ∀ k n a r t, la = a :: .agg (.sym k n :: r) :: t → 0 ≤ n → ∀ p ∈ R.ob, p := by
  intro la lh R h k n a r t e hn p hp
  unfold mstSpec at h
  split at h
  · split at h
    · cases h
      simp only [List.cons.injEq, AV.agg.injEq, AV.sym.injEq] at e
      simp only [storeR, List.mem_singleton] at hp
      subst hp
      obtain ⟨_, ⟨⟨_, e⟩, _⟩, _⟩ := e
      rw [e]; exact hn
    · cases h
  · cases h
theorem mld_obs : ∀ la lh R, mldSpec la lh = some R → ∀ k n a r t, la = a :: .agg (.sym k n :: r) :: t → 0 ≤ n → ∀ p ∈ R.ob, p := by
  intro la lh R h k n a r t e hn p hp
  unfold mldSpec at h
  split at h
  · split at h
    · cases h
      simp [loadR] at hp
    · cases h
  · cases h
theorem mcs_obs : ∀ la lh R, mcsSpec la lh = some R → ∀ k n a r t, la = a :: .agg (.sym k n :: r) :: t → 0 ≤ n → ∀ p ∈ R.ob, p := by
  intro la lh R h k n a r t e hn p hp
  unfold mcsSpec at h
  split at h
  · split at h
    · cases h
      simp only [List.cons.injEq, AV.agg.injEq, AV.sym.injEq] at e
      simp only [casR, List.mem_singleton] at hp
      subst hp
      obtain ⟨_, ⟨⟨_, e⟩, _⟩, _⟩ := e
      rw [e]; exact hn
    · cases h
  · cases h
noncomputable def EMC : Env := envG Tryd.prog [(16, rawSP (dropK mstSpec)), (33, rawSP (dropK mldSpec)), (180, rawSP (dropK mcsSpec))]
theorem EMC_ok : EnvOk EMC := envG_ok mgood ⟨rawSP_ok (dropK_ok mstSpec_ok mst_obs), rawSP_ok (dropK_ok mldSpec_ok mld_obs), rawSP_ok (dropK_ok mcsSpec_ok mcs_obs), trivial⟩
end Go.Proofs.YtljeiencnpnbkaaDoor

/-
  The examples of law07.lives.
-/
set_option linter.unusedSimpArgs false
set_option linter.unusedVariables false
namespace Go.Proofs.YtljeiencnpnbkaaDoor
open Go.Ev
noncomputable def EMW : Env := envG Tryd.prog ((16, rawSP (dropK mstSpec)) :: (33, rawSP (dropK mldSpec)) :: (180, rawSP (dropK mcsSpec)) :: wdC)
theorem EMW_ok : EnvOk EMW := envG_ok mgood ⟨rawSP_ok (dropK_ok mstSpec_ok mst_obs), rawSP_ok (dropK_ok mldSpec_ok mld_obs), rawSP_ok (dropK_ok mcsSpec_ok mcs_obs), wdC_ok⟩
theorem l7_run : (callF EMW 20000 43 [] ⟨[(gnm 0, tabAO tab)], 0, gnm 0, [], [], [], true⟩).map (fun x => (x.1, x.2.ob)) = some (.symb true, []) := by kernel_rfl
theorem l7_pure : TabPure Tryd.prog 43 [] (.bool true) [] 0 tab := tabPure_true (.inr rfl) (tabPure_closed EMW_ok rfl l7_run)
end Go.Proofs.YtljeiencnpnbkaaDoor
