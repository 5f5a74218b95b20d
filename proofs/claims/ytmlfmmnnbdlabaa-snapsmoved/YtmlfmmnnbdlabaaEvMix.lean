/-
  A struct with a slice in it among the arguments.
-/
import Derived.Test.YtmlfmmnnbdlabaaEvJoin
set_option linter.unusedVariables false
namespace Go.Ev
open Go
section
variable {H : Type} {enc : TypeId × Value → H} {P : Program} {w : World} {base : Nat} {spare : Nat → Bool} {held : Bool}
theorem open_cells {r : Reach} {b0 : Nat} {n : Nat} {t : TypeId} {fs : Array Field} {ls ts : List TypeId} {v : Value} {d : DataW H} {p : List MemPlace} (hs : P.underlying t = some (.struct fs)) (hl : leaves P n t = some ls) (hc : P.cellTypes P.depth t = some ts)
    (hv : Value.okWide P w r b0 t v) (h : DataW.Trod enc P w base spare held t v d p) : ∃ cs : List Value, v = .agg cs.toArray ∧ cs.length = ls.length ∧
      (∀ (j : Nat) u, ls[j]? = some u → ∃ v m y, cs[j]? = some v ∧ DataW.trod enc P w base spare held m u [v] = some y) ∧
      (∀ (j : Nat) u v, ts[j]? = some u → cs[j]? = some v → Cell.okWide P w r b0 u v) := by
  simp only [Value.okWide, hs] at hv
  obtain ⟨cs, rfl, _, hr⟩ := hv
  obtain ⟨fuel, hf⟩ := h
  obtain ⟨h1, h2⟩ := leaves_trod n t ls hl fuel _ _ hf
  refine ⟨cs.toList, by simp, by simpa [Value.cells] using h1, fun j u hu => by simpa [Value.cells] using h2 j u hu, fun j u v hu hv => ?_⟩
  obtain ⟨ts', e1, _, h3⟩ := hr
  rw [hc] at e1; cases e1
  obtain ⟨u', q1, q2⟩ := h3 j v (by simpa using hv)
  have : j < ts.length := (List.getElem?_eq_some_iff.1 hu).1
  rw [Nat.mod_eq_of_lt this, hu] at q1
  cases q1; exact q2
end
end Go.Ev
