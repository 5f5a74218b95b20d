/-
  The ends of laws: what is handed in, tables that are listed.
-/
import Derived.Test.YtmlfmmnnbdlabaaEvDoor
import Derived.Test.YtmlfmmnnbdlabaaEvMemD
set_option linter.unusedSimpArgs false
set_option linter.unusedVariables false
namespace Go.Ev
theorem rep_nil {P : Program} {W : World} {ls : List (Nat × Loc)} {tabs : List (Nat × List Value)} : ∀ n o, get ([] : List (Nat × AO)) n = some o → o.ro = true ∧ ∃ l, get ls n = some l ∧ ObjRep P (inpT ls tabs) W l o := fun n o e => by simp [get] at e
theorem rep_cons {P : Program} {W : World} {ls : List (Nat × Loc)} {tabs : List (Nat × List Value)} {heap : List (Nat × AO)} {m : Nat} {L : Loc} {x : AO} (ho : x.ro = true) (hl : get ls m = some L) (h : ∀ ρ, ObjRep P ρ W L x)
    (hr : ∀ n o, get heap n = some o → o.ro = true ∧ ∃ l, get ls n = some l ∧ ObjRep P (inpT ls tabs) W l o) : ∀ n o, get ((m, x) :: heap) n = some o → o.ro = true ∧ ∃ l, get ls n = some l ∧ ObjRep P (inpT ls tabs) W l o := by
  intro n o e
  simp only [get] at e
  split at e
  · rename_i hb
    have hb := Nat.eq_of_beq_eq_true hb
    subst hb
    cases e
    exact ⟨ho, L, hl, h _⟩
  · exact hr n o e
end Go.Ev
