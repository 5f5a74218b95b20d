/-
  The laws of the histories: definitions.
-/
import Derived.Test.YtnecknppajbcdaaEvNorm
import Derived.Test.YtnecknppajbcdaaRows
set_option linter.unusedSimpArgs false
set_option linter.unusedVariables false
namespace Go.Proofs.Ytnecknppajbcdaa
open Go.Ev

theorem hgood : Ev.Good Try.prog where
  mixed := by kernel_rfl
  names := fun f fn h1 h2 => by
    have key : Try.prog.funcs.toList.all (fun fn => !fn.body.isSome || !(fn.name == "runtime.NumGoroutine")) = true := by kernel_rfl
    have hm : fn ∈ Try.prog.funcs.toList := by
      have := (Array.getElem?_eq_some_iff.1 h1)
      obtain ⟨hlt, rfl⟩ := this
      simp
    have := List.all_eq_true.1 key fn hm
    simpa [h2] using this

noncomputable def EH0 : Env := envOf Try.prog []
theorem EH0_ok : EnvOk EH0 := envOf_ok hgood trivial
theorem hlives_run : (callF EH0 3000 23 [] ⟨[], 0, gnm 0, [], [], [], true⟩).map (fun x => (x.1, x.2.ob)) = some (.bool true, []) := by kernel_rfl
noncomputable def hlivesR : LR := ⟨0, .bool true, [], 0, [], []⟩
noncomputable def hlivesSpec : LSpec := fun la lh => match la, lh with
  | [], [] => some hlivesR
  | _, _ => none
theorem hlivesSpec_ok (la : List AV) (lh : List (Nat × AO)) (R : LR) (h : hlivesSpec la lh = some R) : LocOk Try.prog 23 la lh R := by
  unfold hlivesSpec at h
  split at h
  · cases h; exact lives_of_run EH0_ok hlives_run
  · cases h
noncomputable def EH : Env := envOf Try.prog [(23, hlivesSpec)]
theorem EH_ok : EnvOk EH := envOf_ok hgood ⟨hlivesSpec_ok, trivial⟩

noncomputable def actA (k t c o a y v s : Int) : AV := .agg [.sym .u8 k, .sym .i64 t, .sym .i64 c, .sym .u8 o, .sym .u8 a, .sym .u64 y, .sym .u64 v, .sym .i64 s]
def Runs (run : List Hint → Option (AV × List Prop × Bool)) : Prop := ∃ h v ob, run h = some (v, ob, true) ∧ isTrue v ∧ ∀ p ∈ ob, p
noncomputable def hvRun (k t c o a y v s : Int) (h : List Hint) : Option (AV × List Prop × Bool) := (callF EH 2000 8 [actA k t c o a y v s] ⟨[], 1, gnm 0, h, [], [], false⟩).map (fun x => (x.1, x.2.ob, noneIn [] x.2.wr))
end Go.Proofs.Ytnecknppajbcdaa
