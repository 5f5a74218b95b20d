/-
  A loop by an invariant over a family: rounds out of evaluations that end in a cast; rows of the array.
-/
import Derived.Test.YtmlfmmnnbdlabaaEvFam2
import Derived.Test.YtmlfmmnnbdlabaaEvUse
set_option linter.unusedSimpArgs false
set_option linter.unusedVariables false
namespace Go.Ev

theorem fam_norm {E : Env} {c : Code} {F : Fam} {s0 : St} {e0 : Ex} {s1 : St} {X : Type} {T : X → FSt} {μ : X → Nat} {ok : X → Prop} {x : X} (y : X) (j : Nat) (wth wth' : Bool) {mb mb' : Mb} {fuel : Nat} {m : List (Nat × Src)} {hints : List Hint} {ob : List Prop}
    (h : roundB E fuel c (h0F F s0) m (locSt F (T x) wth mb j []) hints (locSt F (T y) wth' mb' j []) = some (.norm, ob)) (ho : ∀ p ∈ ob, p)
    (hj : wth = true → j < (T x).n) (hm : (T x).M j = mb) (hy : ok y) (hμ : μ y < μ x) (hm' : (T y).M j = mb') (hw : (wth' = true ∧ j < (T y).n) ∨ (wth' = false ∧ (T y).n ≤ j))
    (same : ∀ i, i < (T y).n → i ≠ j → i < (T x).n ∧ (T y).M i = (T x).M i) : FamRound E c F s0 e0 s1 T μ ok x := by
  obtain ⟨s', h1, h2, ob', h3, h4⟩ := roundB_spec h ho
  exact ⟨j, wth, mb, fuel, hints, .norm, s', hj, hm, h1, h2, .inl ⟨rfl, y, wth', mb', m, ob', hy, hμ, hm', hw, same, h3, h4⟩⟩

theorem fam_exit {E : Env} {c : Code} {F : Fam} {s0 : St} {e0 : Ex} {s1 : St} {X : Type} {T : X → FSt} {μ : X → Nat} {ok : X → Prop} {x : X} (j : Nat) (wth : Bool) {mb : Mb} {fuel : Nat} {m : List (Nat × Src)} {hints : List Hint} {ob : List Prop}
    (h : roundB E fuel c s0.hp m (locSt F (T x) wth mb j []) hints s1 = some (e0, ob)) (hne : e0 ≠ .norm) (ho : ∀ p ∈ ob, p)
    (hj : wth = true → j < (T x).n) (hm : (T x).M j = mb) : FamRound E c F s0 e0 s1 T μ ok x := by
  obtain ⟨s', h1, h2, ob', h3, h4⟩ := roundB_spec h ho
  exact ⟨j, wth, mb, fuel, hints, e0, s', hj, hm, h1, h2, .inr ⟨rfl, hne, m, ob', h3, h4⟩⟩

/-! ### rows of a family's array -/
theorem valV_ptr {c : CM} {n k i j : Nat} (h : c.same n k = true) : valV c (.ptr k i j) (.ptr n i j) := ⟨rfl, fun ρ x hx => by
  simp only [den] at hx ⊢
  rw [CM.same_ren h]; exact hx⟩
theorem valV_nilp {c : CM} : valV c .nilp .nilp := ⟨rfl, fun ρ x hx => hx⟩
theorem valV_eq {c : CM} {s s' t : AV} (e : s = s') (h : valV c s' t) : valV c s t := by rw [e]; exact h

/-- Another member's cell: its names lie beyond what a cast gives out. -/
theorem valV_far {c : CM} {F : Fam} {mb : Mb} (hm : MbOk F mb) {b : Nat} (hb : ∀ k, k < F.q → c.fresh (b + k) = false) {cc : Nat} {k : CK} (hk : F.sh[cc]? = some k) : valV c (mrow F.q b mb cc) (mrow F.q b mb cc) := by
  have hkd := mrow_kind hm hk b
  refine ⟨?_, fun ρ x hx => ?_⟩
  · cases k with
    | int k => obtain ⟨n, h | h⟩ := hkd <;> rw [h] <;> rfl
    | bool => obtain ⟨n, h | h⟩ := hkd <;> rw [h] <;> rfl
    | val => exact hkd
  · have := mrow_den hm (ρ := ρ) (ρ' := c.ren ρ) (b := b) (b' := b) (fun n hn => by simp [CM.ren, hb n hn]) hk
    rw [this]; exact hx

theorem rowV_of {c : CM} {f g : Nat → AV} : ∀ (sh : List CK) (j0 : Nat), (∀ (j : Nat) k, sh[j]? = some k → k = .val ∧ valV c (f (j0 + j)) (g (j0 + j))) → rowV c sh j0 f g
  | [], _, _ => trivial
  | k :: r, j0, h => by
    obtain ⟨rfl, h0⟩ := h 0 k rfl
    refine ⟨h0, rowV_of r (j0 + 1) (fun j k hk => ?_)⟩
    have := h (j + 1) k (by simpa using hk)
    rwa [show j0 + (j + 1) = j0 + 1 + j by omega] at this

/-- The rows of a family whose cells are pointers all: all rows but j's are as they were. -/
theorem fam_rows {c : CM} {F : Fam} (hv : ∀ (j : Nat) k, F.sh[j]? = some k → k = .val) (hf : c.hi ≤ F.b0) {M M' : Nat → Mb} {n n' j : Nat} {src : Nat → Nat → AV}
    (hM : ∀ i, i < n' → i ≠ j → MbOk F (M i) ∧ M' i = M i ∧ ∀ cc, src i cc = mrow F.q (F.b0 + F.q * i) (M i) cc)
    (hj : j < n' → ∀ (cc : Nat) k, F.sh[cc]? = some k → valV c (src j cc) (mrow F.q 900 (M' j) cc)) : ∀ i, i < n' → rowV c F.sh 0 (src i) (lrow F.b0 F.q M' j i) := by
  intro i hi
  refine rowV_of F.sh 0 (fun cc k hk => ⟨hv cc k hk, ?_⟩)
  rw [Nat.zero_add]
  by_cases e : i = j
  · subst e
    simp only [lrow, if_true]
    exact hj hi cc k hk
  · obtain ⟨h1, h2, h3⟩ := hM i hi e
    simp only [lrow, e, if_false]
    rw [h3 cc, h2]
    refine valV_far h1 (fun k hk => ?_) hk
    cases hfr : c.fresh (F.b0 + F.q * i + k) with
    | false => rfl
    | true => have := (CM.fresh_iff.1 hfr).2; omega
theorem lrow_j {b0 q : Nat} {M : Nat → Mb} {j c : Nat} {mb : Mb} (h : M j = mb) : lrow b0 q M j j c = mrow q 900 mb c := by simp [lrow, h]
theorem lrow_ne {b0 q : Nat} {M : Nat → Mb} {j i c : Nat} (h : i ≠ j) : lrow b0 q M j i c = mrow q (b0 + q * i) (M i) c := by simp [lrow, h]

end Go.Ev
