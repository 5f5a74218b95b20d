/-
  joined, left: definitions.
-/
import Derived.Test.YtmndhjodbnojdaaDoorJTfLaw
set_option linter.unusedSimpArgs false
set_option linter.unusedVariables false
namespace Go.Proofs.YtmndhjodbnojdaaDoor
open Go.Ev
structure JoOk (o : JO) : Prop where
  l : Ln7 o.ln
  h : R64 o.wd
  w : R64 o.ow
structure VoOk (o : VO) : Prop where
  l : Ln6 o.ln
  h : R64 o.wd
theorem notF0 {b : Bool} (h : b = true) : (!b) = false := by rw [h]; rfl
theorem z0' : R64 0 := ⟨by decide, by decide⟩
theorem jnS_u {S : MS} {o : JO} (h : U64 S) (ho : JoOk o) : U64 (jnS S o) := by
  have hm : ∀ c, 0 ≤ bk (tMore o.wd) c ∧ bk (tMore o.wd) c < 18446744073709551616 := fun c => bk_r (tMore_r _).1 (tMore_r _).2 c
  have hl : ∀ c, 0 ≤ bk (tLess o.wd) c ∧ bk (tLess o.wd) c < 18446744073709551616 := fun c => bk_r (tLess_r _).1 (tLess_r _).2 c
  unfold jnS
  repeat' split
  all_goals first | exact h.load _ _ _ | exact h.cas _ _ _ _ _ (hm _) | exact h.cas _ _ _ _ _ (hl _) | exact h.cas _ _ _ _ _ ho.w | exact h.store _ _ _ _ z0' | exact h
theorem lvS_u {S : MS} {o : VO} (h : U64 S) : U64 (lvS S o) := by
  have hl : ∀ c, 0 ≤ bk (tLess o.wd) c ∧ bk (tLess o.wd) c < 18446744073709551616 := fun c => bk_r (tLess_r _).1 (tLess_r _).2 c
  unfold lvS
  repeat' split
  all_goals first | exact h.load _ _ _ | exact h.cas _ _ _ _ _ (hl _) | exact h.store _ _ _ _ z0' | exact h
theorem jnO_ok {S : MS} {o : JO} (h : U64 S) (ho : JoOk o) : JoOk (jnO S o) := by
  obtain ⟨h1, h2, h3⟩ := ho
  have hw := h (key 7 o.bl 0)
  unfold jnO Ln7 at *
  repeat' split
  all_goals first | exact ⟨h1, h2, h3⟩ | exact ⟨by simp [Ln7], h2, h3⟩ | exact ⟨by simp [Ln7], hw, h3⟩
theorem lvO_ok {S : MS} {o : VO} (h : U64 S) (ho : VoOk o) : VoOk (lvO S o) := by
  obtain ⟨h1, h2⟩ := ho
  have hw := h (key 7 o.bl 0)
  unfold lvO Ln6 at *
  repeat' split
  all_goals first | exact ⟨h1, h2⟩ | exact ⟨by simp [Ln6], h2⟩ | exact ⟨by simp [Ln6], hw⟩
theorem jdIt_ok {S : MS} (h : U64 S) (w : Int) : ∀ i, U64 (jdIt S w i).S ∧ JoOk (jdIt S w i).o
  | 0 => ⟨h, ⟨.inr (.inl rfl), z0', w64_r _⟩⟩
  | i + 1 => by
    obtain ⟨h1, h2⟩ := jdIt_ok h w i
    exact ⟨by show U64 (jnY _ _); rw [jnY_eq]; exact jnS_u h1 h2, by show JoOk (jnX _ _); rw [jnX_eq]; exact jnO_ok h1 h2⟩
theorem ldIt_ok {S : MS} (h : U64 S) (t : Int) : ∀ i, U64 (ldIt S t i).S ∧ VoOk (ldIt S t i).o
  | 0 => ⟨h, ⟨.inr (.inl rfl), z0'⟩⟩
  | i + 1 => by
    obtain ⟨h1, h2⟩ := ldIt_ok h t i
    exact ⟨by show U64 (lvY _ _); rw [lvY_eq]; exact lvS_u h1, by show VoOk (lvX _ _); rw [lvX_eq]; exact lvO_ok h1 h2⟩
theorem jnS_ow {S : MS} {o : JO} : (jnO S o).ow = o.ow := by
  unfold jnO
  repeat' split
  all_goals rfl
theorem jdIt_ow (S : MS) (w : Int) : ∀ i, (jdIt S w i).o.ow = jOw w
  | 0 => rfl
  | i + 1 => by show (jnX _ _).ow = _; rw [jnX_eq, jnS_ow]; exact jdIt_ow S w i
end Go.Proofs.YtmndhjodbnojdaaDoor
