/-
  A function that neither the kernel nor the tools unfold.
-/
import Derived.Test.YtmndhjodbnojdaaDoorEvFam3
set_option linter.unusedSimpArgs false
set_option linter.unusedVariables false
namespace Go.Ev
universe u
noncomputable def hide {α : Sort u} (a : α) : α := Classical.choose (⟨a, rfl⟩ : ∃ x, x = a)
theorem hide_eq {α : Sort u} (a : α) : hide a = a := Classical.choose_spec (⟨a, rfl⟩ : ∃ x, x = a)
end Go.Ev
