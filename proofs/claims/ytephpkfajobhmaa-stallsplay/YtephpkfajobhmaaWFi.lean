/-
  Contracts of Flagged, as an environment has them.
-/
import Derived.Test.YtephpkfajobhmaaWFl
import Derived.Test.YtephpkfajobhmaaEvLoc2
set_option linter.unusedSimpArgs false
set_option linter.unusedVariables false
namespace Go.Proofs.Ytephpkfajobhmaa
open Go.Ev
noncomputable def flSpec : LSpec := fun la lh => match la, lh with
  | [.agg [.ss z1 z2 z3 n c, .sym .u64 e]], [(z4, .arr z5 z6 r l g)] =>
    match Nat.beq z1 10 && (Nat.beq z2 1 && (Nat.beq z3 0 && (Nat.beq z4 1 && (Nat.beq z5 10 && (shBeq z6 tSh))))) with
    | true => some (flR n l r g)
    | false => none
  | _, _ => none
theorem flSpec_ok (la : List AV) (lh : List (Nat × AO)) (R : LR) (h : flSpec la lh = some R) : LocOk Try.prog 35 la lh R := by
  unfold flSpec at h
  split at h
  · rename_i z1 z2 z3 n c e z4 z5 z6 r l g
    split at h
    · rename_i hb
      simp only [Bool.and_eq_true] at hb
      obtain ⟨e1, e2, e3, e4, e5, e6⟩ := hb
      have e1 := Nat.eq_of_beq_eq_true e1; subst e1
      have e2 := Nat.eq_of_beq_eq_true e2; subst e2
      have e3 := Nat.eq_of_beq_eq_true e3; subst e3
      have e4 := Nat.eq_of_beq_eq_true e4; subst e4
      have e5 := Nat.eq_of_beq_eq_true e5; subst e5
      have e6 := shBeq_eq e6; subst e6
      cases h
      exact fl_loc n l r g e c
    · cases h
  · cases h
noncomputable def flR2' (n : Nat) (l : List AV) : LR := { flR2 n l with ob := [] }
def fl2C (z1 z2 z3 z4 z5 n : Nat) (l : List AV) : Bool := Nat.beq z1 10 && (Nat.beq z2 1 && (Nat.beq z3 0 && (Nat.beq z4 1 && (Nat.beq z5 10 && ((Nat.ble n (l.length / 10) && Nat.ble n 100000) && (Nat.beq (l.length / 10 * 10) l.length && rowsB 10 l tSh (l.length / 10)))))))
noncomputable def fl2Spec : LSpec := fun la lh => match la, lh with
  | [.agg [.xs z1 z2 z3 n c, .sym .u64 e]], [(z4, .cells z5 l)] =>
    match fl2C z1 z2 z3 z4 z5 n l with
    | true => some (flR2' n l)
    | false => none
  | [.agg [.xs z1 z2 z3 n c, .int .u64 e]], [(z4, .cells z5 l)] =>
    match fl2C z1 z2 z3 z4 z5 n l with
    | true => some (flR2' n l)
    | false => none
  | _, _ => none
theorem fl2_loc (z1 z2 z3 z4 z5 n : Nat) (l : List AV) (e : Int) (c : Option Nat) (ev : AV) (hev : ev = .sym .u64 e ∨ ev = .int .u64 e) (h : fl2C z1 z2 z3 z4 z5 n l = true) : LocOk Try.prog 35 [.agg [.xs z1 z2 z3 n c, ev]] [(z4, .cells z5 l)] (flR2' n l) := by
  unfold fl2C at h
  rw [Bool.and_eq_true, Bool.and_eq_true, Bool.and_eq_true, Bool.and_eq_true, Bool.and_eq_true, Bool.and_eq_true, Bool.and_eq_true] at h
  obtain ⟨e1, e2, e3, e4, e5, ⟨e6, e7⟩, e8⟩ := h
  have e1 := Nat.eq_of_beq_eq_true e1; subst e1
  have e2 := Nat.eq_of_beq_eq_true e2; subst e2
  have e3 := Nat.eq_of_beq_eq_true e3; subst e3
  have e4 := Nat.eq_of_beq_eq_true e4; subst e4
  have e5 := Nat.eq_of_beq_eq_true e5; subst e5
  intro ρ w _
  exact fl_loc2 n l e c _ hev e8 ρ w (ob_cons (Nat.le_of_ble_eq_true e6) (ob_cons (Nat.le_of_ble_eq_true e7) ob_nil))
theorem fl2Spec_ok (la : List AV) (lh : List (Nat × AO)) (R : LR) (h : fl2Spec la lh = some R) : LocOk Try.prog 35 la lh R := by
  unfold fl2Spec at h
  split at h
  · rename_i z1 z2 z3 n c e z4 z5 l
    split at h
    · rename_i hb
      cases h
      exact fl2_loc _ _ _ _ _ n l e c _ (.inl rfl) hb
    · cases h
  · rename_i z1 z2 z3 n c e z4 z5 l
    split at h
    · rename_i hb
      cases h
      exact fl2_loc _ _ _ _ _ n l e c _ (.inr rfl) hb
    · cases h
  · cases h
noncomputable def flcR (n l : Nat) (r : Bool) (g : Nat → Nat → AV) : LR := { flR n l r g with ob := [] }
def flcC (z1 z2 z3 z4 z5 n l : Nat) (sh : List CK) : Bool := Nat.beq z1 10 && (Nat.beq z2 1 && (Nat.beq z3 0 && (Nat.beq z4 1 && (Nat.beq z5 10 && ((Nat.ble n l && Nat.ble n 100000) && shBeq sh tSh)))))
/-- In closed runs. -/
noncomputable def flcSpec : LSpec := fun la lh => match la, lh with
  | [.agg [.ss z1 z2 z3 n c, .sym .u64 e]], [(z4, .arr z5 sh r l g)] =>
    match flcC z1 z2 z3 z4 z5 n l sh with
    | true => some (flcR n l r g)
    | false => none
  | [.agg [.ss z1 z2 z3 n c, .int .u64 e]], [(z4, .arr z5 sh r l g)] =>
    match flcC z1 z2 z3 z4 z5 n l sh with
    | true => some (flcR n l r g)
    | false => none
  | _, _ => none
theorem flc_loc (z1 z2 z3 z4 z5 n l : Nat) (sh : List CK) (r : Bool) (g : Nat → Nat → AV) (e : Int) (c : Option Nat) (h : flcC z1 z2 z3 z4 z5 n l sh = true) : LocOk Try.prog 35 [.agg [.ss z1 z2 z3 n c, .sym .u64 e]] [(z4, .arr z5 sh r l g)] (flcR n l r g) := by
  unfold flcC at h
  rw [Bool.and_eq_true, Bool.and_eq_true, Bool.and_eq_true, Bool.and_eq_true, Bool.and_eq_true, Bool.and_eq_true, Bool.and_eq_true] at h
  obtain ⟨e1, e2, e3, e4, e5, ⟨e6, e7⟩, e8⟩ := h
  have e1 := Nat.eq_of_beq_eq_true e1; subst e1
  have e2 := Nat.eq_of_beq_eq_true e2; subst e2
  have e3 := Nat.eq_of_beq_eq_true e3; subst e3
  have e4 := Nat.eq_of_beq_eq_true e4; subst e4
  have e5 := Nat.eq_of_beq_eq_true e5; subst e5
  have e8 := shBeq_eq e8; subst e8
  intro ρ w _
  exact fl_loc n l r g e c ρ w (ob_cons (Nat.le_of_ble_eq_true e6) (ob_cons (Nat.le_of_ble_eq_true e7) ob_nil))
theorem flcSpec_ok (la : List AV) (lh : List (Nat × AO)) (R : LR) (h : flcSpec la lh = some R) : LocOk Try.prog 35 la lh R := by
  unfold flcSpec at h
  split at h
  · rename_i z1 z2 z3 n c e z4 z5 sh r l g
    split at h
    · rename_i hb
      cases h
      exact flc_loc _ _ _ _ _ n l _ r g e c hb
    · cases h
  · rename_i z1 z2 z3 n c e z4 z5 sh r l g
    split at h
    · rename_i hb
      cases h
      have := flc_loc _ _ _ _ _ n l _ r g e c hb
      intro ρ w hob hr hf hg xs hx
      exact this ρ w hob hr hf hg xs (by simpa only [denL, den] using hx)
    · cases h
  · cases h
/-- Flagged, whatever way its threads lie. -/
noncomputable def flSP : SP := orSP (locSP flSpec) (rawSP fl2Spec)
theorem flSP_ok : SPOk Try.prog 35 flSP := orSP_ok (locSP_ok flSpec_ok) (rawSP_ok fl2Spec_ok)
/-- In closed runs. -/
noncomputable def flcSP : SP := orSP (rawSP flcSpec) (rawSP fl2Spec)
theorem flcSP_ok : SPOk Try.prog 35 flcSP := orSP_ok (rawSP_ok flcSpec_ok) (rawSP_ok fl2Spec_ok)
end Go.Proofs.Ytephpkfajobhmaa
