/-
  EpochsMay: definitions.
-/
import Derived.Test.YtadbohcdahddoaaEpMay
set_option linter.unusedSimpArgs false
set_option linter.unusedVariables false
namespace Go.Proofs.Ytadbohcdahddoaa
open Go.Ev
noncomputable def EH : Env := envOf Try.prog [(15, elivesSpec), (20, nrm maSpec), (25, nrm mbSpec)]
theorem EH_ok : EnvOk EH := envOf_ok hgood ⟨elivesSpec_ok, nrm_ok maSpec_ok, nrm_ok mbSpec_ok, trivial⟩
theorem u64r (x : Int) : 0 ≤ IntKind.u64.wrap x ∧ IntKind.u64.wrap x < 18446744073709551616 := by
  simp only [IntKind.wrap, IntKind.signed, IntKind.bits]
  simp
  omega
theorem eq_no {b : Bool} : ((b == b) == false) = false := by cases b <;> rfl
def Runs (run : List Hint → Option (AV × List Prop × Bool)) : Prop := ∃ h v ob, run h = some (v, ob, true) ∧ isTrue v ∧ ∀ p ∈ ob, p
noncomputable def emRun (a b y t : Int) (h : List Hint) : Option (AV × List Prop × Bool) := (callF EH 2000 5 [.agg [.sym .u64 a, .sym .u64 b], .sym .u8 y, .sym .i64 t] ⟨[], 1, gnm 0, h, [], [], false⟩).map (fun x => (x.1, x.2.ob, noneIn [] x.2.wr))
end Go.Proofs.Ytadbohcdahddoaa
