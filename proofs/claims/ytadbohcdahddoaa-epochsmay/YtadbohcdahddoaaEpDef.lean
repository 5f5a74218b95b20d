/-
  The laws of the epochs: definitions.
-/
import Derived.Test.YtadbohcdahddoaaEvNorm
import Derived.Test.YtadbohcdahddoaaRows
set_option linter.unusedSimpArgs false
set_option linter.unusedVariables false
namespace Go.Proofs.Ytadbohcdahddoaa
open Go.Ev

theorem hgood : Ev.Good Try.prog where
  mixed := by kernel_rfl
  names := fun f fn h1 h2 => by
    have key : Try.prog.funcs.toList.all (fun fn => !fn.body.isSome || !(fn.name == "runtime.NumGoroutine")) = true := by kernel_rfl
    have hm : fn ∈ Try.prog.funcs.toList := by
      have := (Array.getElem?_eq_some_iff.1 h1)
      obtain ⟨hlt, rfl⟩ := this
      simp
    have := List.all_eq_true.1 key fn hm
    simpa [h2] using this

noncomputable def EH0 : Env := envOf Try.prog []
theorem EH0_ok : EnvOk EH0 := envOf_ok hgood trivial
theorem elives_run : (callF EH0 3000 15 [] ⟨[], 0, gnm 0, [], [], [], true⟩).map (fun x => (x.1, x.2.ob)) = some (.symb true, []) := by kernel_rfl
noncomputable def hlivesR : LR := ⟨0, .bool true, [], 0, [], []⟩
noncomputable def elivesSpec : LSpec := fun la lh => match la, lh with
  | [], [] => some hlivesR
  | _, _ => none
theorem elivesSpec_ok (la : List AV) (lh : List (Nat × AO)) (R : LR) (h : elivesSpec la lh = some R) : LocOk Try.prog 15 la lh R := by
  unfold elivesSpec at h
  split at h
  · cases h; exact lives_of_run_s EH0_ok elives_run
  · cases h
/-- May what was retired go? -/
def mayB (e n : Int) : Bool := decide (e < 18446744073709551614) && decide (n ≥ e + 2)
theorem u64w {x : Int} (h0 : 0 ≤ x) (h1 : x < 18446744073709551616) : IntKind.u64.wrap x = x := by
  simp only [IntKind.wrap, IntKind.signed, IntKind.bits]
  simp
  omega
noncomputable def mayR (e n : Int) : LR := ⟨0, .symb (mayB e n), [], 0, [], [0 ≤ e, e < 18446744073709551616, 0 ≤ n, n < 18446744073709551616]⟩
end Go.Proofs.Ytadbohcdahddoaa
