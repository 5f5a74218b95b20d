/-
  Lists of entries as such: what comes in, refs are unlike.
-/
import Derived.Test.YtnecknppajbcdaaROnce2
set_option linter.unusedSimpArgs false
set_option linter.unusedVariables false
namespace Go.Proofs.Ytnecknppajbcdaa
open Go.Ev

theorem ref_key {x y : Ent} (h : refB x y = true) : eKey x = eKey y := by
  unfold refB at h
  cases h1 : (x.slot == y.slot) with
  | false => simp [and2, h1] at h
  | true => cases h2 : (x.gen == y.gen) with
    | false => simp [and2, h1, h2] at h
    | true => cases h3 : (x.mark == y.mark) with
      | false => simp [and2, h1, h2, h3] at h
      | true =>
        have e1 : x.slot = y.slot := by simpa using h1
        have e2 : x.gen = y.gen := by simpa using h2
        have e3 : x.mark = y.mark := by simpa using h3
        simp [eKey, e1, e2, e3]

/-- What comes in may be, and is not there. -/
theorem add_in {M : List Int → Option Int} {e : Ent} (h : (addE M e == 0) = true) : (0 ≤ e.slot ∧ e.slot < 256 ∧ e.mark = false) ∧ ¬ mget M (eKey e) > 0 := by
  have h : addE M e = 0 := by simpa using h
  unfold addE at h
  cases h1 : c1 e with
  | false => rw [h1] at h; simp at h
  | true => cases h2 : c2 e with
    | false => rw [h1, h2] at h; simp at h
    | true => cases h3 : c3 e with
      | true => rw [h1, h2, h3] at h; simp at h
      | false => cases h4 : c4 M e with
        | true => rw [h1, h2, h3, h4] at h; simp at h
        | false =>
          refine ⟨⟨of_decide_eq_true h2, ?_, ?_⟩, of_decide_eq_false h4⟩
          · simpa [c3] using h3
          · cases hm : e.mark with
            | false => rfl
            | true => simp [c1, and2, hm] at h1

structure LInv (Q : Ent → Prop) (s : LS) : Prop where
  uniq : Uniq s.n s.E
  there : ∀ i, i < s.n → s.M (eKey (s.E i)) = some 1
  from_ : ∀ i, i < s.n → Q (s.E i)

theorem lsAdd_inv {Q : Ent → Prop} {s : LS} {e : Ent} (h : LInv Q s) (hq : Q e) : LInv Q (lsAdd s e) := by
  cases hc : (addE s.M e == 0) with
  | false =>
    have hn : (lsAdd s e).n = s.n := addN_f hc
    have hM : (lsAdd s e).M = s.M := addM_f hc
    have hE : ∀ i, i < s.n → (lsAdd s e).E i = s.E i := fun i hi => by show addF _ _ _ _ = _; simp [addF, hi]
    refine ⟨⟨fun i hi => ?_, fun i k hk hi => ?_⟩, fun i hi => ?_, fun i hi => ?_⟩
    · rw [hn] at hi; rw [hE i hi]; exact h.uniq.may i hi
    · rw [hn] at hi; rw [hE i hi, hE k (by omega)]; exact h.uniq.diff i k hk hi
    · rw [hn] at hi; rw [hE i hi, hM]; exact h.there i hi
    · rw [hn] at hi; rw [hE i hi]; exact h.from_ i hi
  | true =>
    obtain ⟨hmay, hno⟩ := add_in hc
    have hn : (lsAdd s e).n = s.n + 1 := addN_t hc
    have hM : (lsAdd s e).M = setKey s.M (eKey e) (some 1) := addM_t hc
    have hE : ∀ i, i < s.n → (lsAdd s e).E i = s.E i := fun i hi => by show addF _ _ _ _ = _; simp [addF, hi]
    have hE' : (lsAdd s e).E s.n = e := by show addF _ _ _ _ = _; simp [addF]
    have hkey : ∀ i, i < s.n → eKey (s.E i) ≠ eKey e := fun i hi hk => by
      have := h.there i hi
      rw [hk] at this
      apply hno
      unfold mget
      rw [this]
      decide
    refine ⟨⟨fun i hi => ?_, fun i k hk hi => ?_⟩, fun i hi => ?_, fun i hi => ?_⟩
    · by_cases hi' : i < s.n
      · rw [hE i hi']; exact h.uniq.may i hi'
      · have : i = s.n := by omega
        rw [this, hE']; exact hmay
    · by_cases hi' : i < s.n
      · rw [hE i hi', hE k (by omega)]; exact h.uniq.diff i k hk hi'
      · have : i = s.n := by omega
        rw [this, hE', hE k (by omega)]
        cases hr : refB (s.E k) e with
        | false => rfl
        | true => exact (hkey k (by omega) (ref_key hr)).elim
    · rw [hM]
      unfold setKey
      by_cases hi' : i < s.n
      · rw [hE i hi', if_neg (hkey i hi')]; exact h.there i hi'
      · have : i = s.n := by omega
        rw [this, hE', if_pos rfl]
    · by_cases hi' : i < s.n
      · rw [hE i hi']; exact h.from_ i hi'
      · have : i = s.n := by omega
        rw [this, hE']; exact hq

theorem lsN_inv {Q : Ent → Prop} (A : Nat → Ent) : ∀ i, (∀ k, k < i → Q (A k)) → LInv Q (lsN A i)
  | 0, _ => ⟨⟨fun i hi => absurd hi (Nat.not_lt_zero i), fun i k hk hi => absurd hi (Nat.not_lt_zero i)⟩, fun i hi => absurd hi (Nat.not_lt_zero i), fun i hi => absurd hi (Nat.not_lt_zero i)⟩
  | i + 1, h => lsAdd_inv (lsN_inv A i (fun k hk => h k (by omega))) (h i (by omega))

theorem cnt_mono {p q : Nat → Bool} : ∀ n, (∀ i, i < n → p i = true → q i = true) → cntB p n ≤ cntB q n
  | 0, _ => Nat.le_refl _
  | n + 1, h => by
    have ih := cnt_mono n (fun i hi => h i (by omega))
    have hn := h n (by omega)
    simp only [cntB]
    cases hp : p n with
    | false => simp; split <;> omega
    | true => rw [hn hp]; simp; omega
theorem cnt_congr {p q : Nat → Bool} (n : Nat) (h : ∀ i, i < n → p i = q i) : cntB p n = cntB q n :=
  Nat.le_antisymm (cnt_mono n (fun i hi e => by rw [← h i hi]; exact e)) (cnt_mono n (fun i hi e => by rw [h i hi]; exact e))
theorem cnt_zero {p : Nat → Bool} : ∀ n, (∀ i, i < n → p i = false) → cntB p n = 0
  | 0, _ => rfl
  | n + 1, h => by simp [cntB, h n (by omega), cnt_zero n (fun i hi => h i (by omega))]

end Go.Proofs.Ytnecknppajbcdaa
