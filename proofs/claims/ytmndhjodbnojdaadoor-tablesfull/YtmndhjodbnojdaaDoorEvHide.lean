/-
  A function that neither the kernel nor the tools unfold.
-/
import Derived.Test.YtmndhjodbnojdaaDoorEvFam
import Derived.Test.YtmndhjodbnojdaaDoorEvUse
set_option linter.unusedSimpArgs false
set_option linter.unusedVariables false
namespace Go.Ev
universe u
noncomputable def hide {α : Sort u} (a : α) : α := Classical.choose (⟨a, rfl⟩ : ∃ x, x = a)
theorem hide_eq {α : Sort u} (a : α) : hide a = a := Classical.choose_spec (⟨a, rfl⟩ : ∃ x, x = a)
/-- One of two contracts, by a hint '.n 0' or '.n 1'. -/
def altN (s t : LSpec) : SP := fun args h => match h.hints with
  | .n c :: r => match c with
    | 0 => applyLoc (nrm s) args { h with hints := r }
    | _ => applyLoc (nrm t) args { h with hints := r }
  | _ => none
theorem altN_ok {P : Program} {f : FuncId} {s t : LSpec} (hs : SpecOk P f s) (ht : SpecOk P f t) : SPOk P f (altN s t) := by
  intro args h v h' e
  unfold altN at e
  split at e
  · rename_i c r hr
    split at e
    · have o := applyLoc_ok (nrm_ok hs) e
      exact ⟨⟨o.mono.ob, o.mono.nxt, o.mono.hi, o.mono.wr⟩, fun ho ρ w hr hf hg xs hx => (o.wp ho ρ w hr hf hg xs hx).mono fun e w' ⟨x, ρ', a, b, c⟩ => ⟨x, ρ', a, b, ⟨c.le, c.new, c.rep, c.fr, c.own⟩⟩⟩
    · have o := applyLoc_ok (nrm_ok ht) e
      exact ⟨⟨o.mono.ob, o.mono.nxt, o.mono.hi, o.mono.wr⟩, fun ho ρ w hr hf hg xs hx => (o.wp ho ρ w hr hf hg xs hx).mono fun e w' ⟨x, ρ', a, b, c⟩ => ⟨x, ρ', a, b, ⟨c.le, c.new, c.rep, c.fr, c.own⟩⟩⟩
  · cases e
end Go.Ev
