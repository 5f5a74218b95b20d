/-
  RetiresParts: the plain law: lists of entries, what comes in, what goes, what stays, what comes in again.
-/
import Derived.Test.YtmlfmmnnbdlabaaNrSwDef
set_option linter.unusedSimpArgs false
set_option linter.unusedVariables false
namespace Go.Proofs.Ytmlfmmnnbdlabaa
open Go.Ev

structure LS where
  n : Nat
  E : Nat → Ent
  M : List Int → Option Int
def ent0 : Ent := ⟨0, 0, false, 0, 0, 0⟩
def lsAdd (s : LS) (e : Ent) : LS := ⟨addN s.n s.M e, addF s.n s.E e, addM s.M e⟩
def lsN (A : Nat → Ent) : Nat → LS
  | 0 => ⟨0, fun _ => ent0, fun _ => none⟩
  | i + 1 => lsAdd (lsN A i) (A i)
theorem addN_t {n : Nat} {M : List Int → Option Int} {e : Ent} (h : (addE M e == 0) = true) : addN n M e = n + 1 := by
  have : addE M e = 0 := by simpa using h
  simp [addN, this]
theorem addN_f {n : Nat} {M : List Int → Option Int} {e : Ent} (h : (addE M e == 0) = false) : addN n M e = n := by
  have : addE M e ≠ 0 := by simpa using h
  unfold addN
  split
  · rename_i h0; exact (this h0).elim
  · rfl
theorem addM_f {M : List Int → Option Int} {e : Ent} (h : (addE M e == 0) = false) : addM M e = M := by
  have : addE M e ≠ 0 := by simpa using h
  unfold addM
  split
  · rename_i h0; exact (this h0).elim
  · rfl
theorem addM_t {M : List Int → Option Int} {e : Ent} (h : (addE M e == 0) = true) : addM M e = setKey M (eKey e) (some 1) := by
  have : addE M e = 0 := by simpa using h
  simp [addM, this]
theorem addN_ge (n : Nat) (M : List Int → Option Int) (e : Ent) : n ≤ addN n M e := by
  cases h : (addE M e == 0) with
  | true => rw [addN_t h]; omega
  | false => rw [addN_f h]; omega
theorem addN_le (n : Nat) (M : List Int → Option Int) (e : Ent) : addN n M e ≤ n + 1 := by
  cases h : (addE M e == 0) with
  | true => rw [addN_t h]; omega
  | false => rw [addN_f h]; omega
theorem lsN_le (A : Nat → Ent) : ∀ i, (lsN A i).n ≤ i
  | 0 => Nat.le_refl _
  | i + 1 => by have := lsN_le A i; have := addN_le (lsN A i).n (lsN A i).M (A i); show addN _ _ _ ≤ _; omega
theorem lsN_mono (A : Nat → Ent) {i : Nat} : ∀ {k : Nat}, i ≤ k → (lsN A i).n ≤ (lsN A k).n
  | 0, h => by have : i = 0 := by omega
               rw [this]; exact Nat.le_refl _
  | k + 1, h => by
    by_cases e : i = k + 1
    · rw [e]; exact Nat.le_refl _
    · exact Nat.le_trans (lsN_mono A (k := k) (by omega)) (addN_ge _ _ _)
theorem lsN_zero (A : Nat → Ent) : ∀ i, (lsN A i).n = 0 → (lsN A i).M = fun _ => none
  | 0, _ => rfl
  | i + 1, h => by
    have h' : addN (lsN A i).n (lsN A i).M (A i) = 0 := h
    have := addN_ge (lsN A i).n (lsN A i).M (A i)
    have ih := lsN_zero A i (by omega)
    show addM (lsN A i).M (A i) = _
    cases hc : (addE (lsN A i).M (A i) == 0) with
    | true => rw [addN_t hc] at h'; omega
    | false => rw [addM_f hc, ih]
theorem lsN_one (A : Nat → Ent) (i : Nat) (h : (lsN A i).n = 0) (hc : addE (fun _ => none) (A i) = 0) : (lsN A (i + 1)).M = setKey (fun _ => none) (eKey (A i)) (some 1) := by
  show addM (lsN A i).M (A i) = _
  rw [lsN_zero A i h]
  exact addM_t (by rw [hc]; rfl)

def May (e : Ent) : Prop := 0 ≤ e.slot ∧ e.slot < 256 ∧ e.mark = false
/-- What comes in may be, and is not there. -/
theorem add_in {M : List Int → Option Int} {e : Ent} (h : (addE M e == 0) = true) : May e ∧ ¬ mget M (eKey e) > 0 := by
  have h : addE M e = 0 := by simpa using h
  unfold addE at h
  cases h1 : c1 e with
  | false => rw [h1] at h; simp at h
  | true => cases h2 : c2 e with
    | false => rw [h1, h2] at h; simp at h
    | true => cases h3 : c3 e with
      | true => rw [h1, h2, h3] at h; simp at h
      | false => cases h4 : c4 M e with
        | true => rw [h1, h2, h3, h4] at h; simp at h
        | false =>
          refine ⟨⟨of_decide_eq_true h2, ?_, ?_⟩, of_decide_eq_false h4⟩
          · simpa [c3] using h3
          · cases hm : e.mark with
            | false => rfl
            | true => simp [c1, and2, hm] at h1
theorem may_c {e : Ent} (h : May e) : c1 e = true ∧ c2 e = true ∧ c3 e = false := by
  obtain ⟨h1, h2, h3⟩ := h
  refine ⟨?_, decide_eq_true h1, ?_⟩
  · simp [c1, and2, h3]
  · simp [c3, h2]
theorem add_ok {M : List Int → Option Int} {e : Ent} (h : May e) (hn : mget M (eKey e) = 0) : addE M e = 0 := by
  obtain ⟨h1, h2, h3⟩ := may_c h
  have h4 : c4 M e = false := by unfold c4; rw [hn]; rfl
  unfold addE; rw [h1, h2, h3, h4]
theorem add_same {M : List Int → Option Int} {e : Ent} (h : May e) (hn : mget M (eKey e) = 1) : addE M e = 8 := by
  obtain ⟨h1, h2, h3⟩ := may_c h
  have h4 : c4 M e = true := by unfold c4; rw [hn]; rfl
  unfold addE; rw [h1, h2, h3, h4]
theorem get_set {M : List Int → Option Int} (k : List Int) (v : Int) : mget (setKey M k (some v)) k = v := by simp [mget, setKey]
theorem get_none {M : List Int → Option Int} (k : List Int) : mget (setKey M k none) k = 0 := by simp [mget, setKey]
theorem get_ne {M : List Int → Option Int} {k x : List Int} {v : Option Int} (h : x ≠ k) : mget (setKey M k v) x = mget M x := by simp [mget, setKey, h]

/-- Entries that may be, with refs that are all unlike. -/
structure Uq (n : Nat) (E : Nat → Ent) : Prop where
  may : ∀ i, i < n → May (E i)
  diff : ∀ k i, k < i → i < n → eKey (E k) ≠ eKey (E i)
structure LInv (s : LS) : Prop where
  uq : Uq s.n s.E
  there : ∀ i, i < s.n → s.M (eKey (s.E i)) = some 1
theorem lsAdd_inv {s : LS} {e : Ent} (h : LInv s) : LInv (lsAdd s e) := by
  cases hc : (addE s.M e == 0) with
  | false =>
    have hn : (lsAdd s e).n = s.n := addN_f hc
    have hM : (lsAdd s e).M = s.M := addM_f hc
    have hE : ∀ i, i < s.n → (lsAdd s e).E i = s.E i := fun i hi => by show addF _ _ _ _ = _; simp [addF, hi]
    refine ⟨⟨fun i hi => ?_, fun k i hk hi => ?_⟩, fun i hi => ?_⟩
    · rw [hn] at hi; rw [hE i hi]; exact h.uq.may i hi
    · rw [hn] at hi; rw [hE i hi, hE k (by omega)]; exact h.uq.diff k i hk hi
    · rw [hn] at hi; rw [hE i hi, hM]; exact h.there i hi
  | true =>
    obtain ⟨hmay, hno⟩ := add_in hc
    have hn : (lsAdd s e).n = s.n + 1 := addN_t hc
    have hM : (lsAdd s e).M = setKey s.M (eKey e) (some 1) := addM_t hc
    have hE : ∀ i, i < s.n → (lsAdd s e).E i = s.E i := fun i hi => by show addF _ _ _ _ = _; simp [addF, hi]
    have hE' : (lsAdd s e).E s.n = e := by show addF _ _ _ _ = _; simp [addF]
    have hkey : ∀ i, i < s.n → eKey (s.E i) ≠ eKey e := fun i hi hk => by
      have := h.there i hi
      rw [hk] at this
      apply hno
      unfold mget
      rw [this]
      decide
    refine ⟨⟨fun i hi => ?_, fun k i hk hi => ?_⟩, fun i hi => ?_⟩
    · by_cases hi' : i < s.n
      · rw [hE i hi']; exact h.uq.may i hi'
      · have : i = s.n := by omega
        rw [this, hE']; exact hmay
    · by_cases hi' : i < s.n
      · rw [hE i hi', hE k (by omega)]; exact h.uq.diff k i hk hi'
      · have : i = s.n := by omega
        rw [this, hE', hE k (by omega)]
        exact hkey k (by omega)
    · rw [hM]
      unfold setKey
      by_cases hi' : i < s.n
      · rw [hE i hi', if_neg (hkey i hi')]; exact h.there i hi'
      · have : i = s.n := by omega
        rw [this, hE', if_pos rfl]
theorem lsN_inv (A : Nat → Ent) : ∀ i, LInv (lsN A i)
  | 0 => ⟨⟨fun i hi => absurd hi (Nat.not_lt_zero i), fun i k hk hi => absurd hi (Nat.not_lt_zero k)⟩, fun i hi => absurd hi (Nat.not_lt_zero i)⟩
  | i + 1 => lsAdd_inv (lsN_inv A i)

/-! ### what goes, what stays -/
theorem entAt_lt {L : List Ent} {e : Ent} {j : Nat} (h : j < L.length) : entAt (L ++ [e]) j = entAt L j := by rw [entAt_app]; simp only [h, if_true]
theorem entAt_eq {L : List Ent} {e : Ent} : entAt (L ++ [e]) L.length = e := by rw [entAt_app]; simp
section
variable (E : Nat → Ent) (p : Nat → Bool)
theorem swG_mono {i : Nat} : ∀ {n : Nat}, i ≤ n → (swG E p i).length ≤ (swG E p n).length ∧ ∀ j, j < (swG E p i).length → entAt (swG E p n) j = entAt (swG E p i) j
  | 0, h => by have : i = 0 := by omega
               subst this; exact ⟨Nat.le_refl _, fun _ _ => rfl⟩
  | n + 1, h => by
    by_cases e : i = n + 1
    · subst e; exact ⟨Nat.le_refl _, fun _ _ => rfl⟩
    · obtain ⟨h1, h2⟩ := swG_mono (i := i) (n := n) (by omega)
      cases hp : p n with
      | true => rw [swG_t hp]; exact ⟨by simp; omega, fun j hj => by rw [entAt_lt (by omega)]; exact h2 j hj⟩
      | false => rw [swG_f hp]; exact ⟨h1, h2⟩
theorem swS_mono {i : Nat} : ∀ {n : Nat}, i ≤ n → (swS E p i).length ≤ (swS E p n).length ∧ ∀ j, j < (swS E p i).length → entAt (swS E p n) j = entAt (swS E p i) j
  | 0, h => by have : i = 0 := by omega
               subst this; exact ⟨Nat.le_refl _, fun _ _ => rfl⟩
  | n + 1, h => by
    by_cases e : i = n + 1
    · subst e; exact ⟨Nat.le_refl _, fun _ _ => rfl⟩
    · obtain ⟨h1, h2⟩ := swS_mono (i := i) (n := n) (by omega)
      cases hp : p n with
      | true => rw [swS_t hp]; exact ⟨h1, h2⟩
      | false => rw [swS_f hp]; exact ⟨by simp; omega, fun j hj => by rw [entAt_lt (by omega)]; exact h2 j hj⟩
/-- The next one that goes stands where the count says. -/
theorem swG_here {i n : Nat} (hi : i < n) (h : p i = true) : (swG E p i).length < (swG E p n).length ∧ entAt (swG E p n) (swG E p i).length = E i := by
  obtain ⟨h1, h2⟩ := swG_mono E p (i := i + 1) (n := n) hi
  rw [swG_t h] at h1 h2
  refine ⟨by simp at h1; omega, ?_⟩
  rw [h2 _ (by simp)]; exact entAt_eq
theorem swS_here {i n : Nat} (hi : i < n) (h : p i = false) : (swS E p i).length < (swS E p n).length ∧ entAt (swS E p n) (swS E p i).length = E i := by
  obtain ⟨h1, h2⟩ := swS_mono E p (i := i + 1) (n := n) hi
  rw [swS_f h] at h1 h2
  refine ⟨by simp at h1; omega, ?_⟩
  rw [h2 _ (by simp)]; exact entAt_eq
theorem sw_sum : ∀ n, (swS E p n).length + (swG E p n).length = n
  | 0 => rfl
  | n + 1 => by
    have ih := sw_sum n
    cases hp : p n with
    | true => rw [swG_t hp, swS_t hp]; simp; omega
    | false => rw [swG_f hp, swS_f hp]; simp; omega
theorem swG_from : ∀ n j, j < (swG E p n).length → ∃ k, k < n ∧ entAt (swG E p n) j = E k
  | 0, j, h => absurd h (Nat.not_lt_zero j)
  | n + 1, j, h => by
    cases hp : p n with
    | true =>
      rw [swG_t hp] at h ⊢
      by_cases hj : j < (swG E p n).length
      · obtain ⟨k, hk, e⟩ := swG_from n j hj
        exact ⟨k, by omega, by rw [entAt_lt hj]; exact e⟩
      · have : j = (swG E p n).length := by simp at h; omega
        subst this
        exact ⟨n, by omega, entAt_eq⟩
    | false =>
      rw [swG_f hp] at h ⊢
      obtain ⟨k, hk, e⟩ := swG_from n j h
      exact ⟨k, by omega, e⟩
theorem swG_uq {m : Nat} (hu : Uq m E) : ∀ n, n ≤ m → Uq (swG E p n).length (entAt (swG E p n))
  | 0, _ => ⟨fun i hi => absurd hi (Nat.not_lt_zero i), fun k i hk hi => absurd hi (Nat.not_lt_zero i)⟩
  | n + 1, h => by
    have ih := swG_uq hu n (by omega)
    cases hp : p n with
    | false => rw [swG_f hp]; exact ih
    | true =>
      rw [swG_t hp]
      refine ⟨fun i hi => ?_, fun k i hk hi => ?_⟩
      · by_cases c : i < (swG E p n).length
        · rw [entAt_lt c]; exact ih.may i c
        · have : i = (swG E p n).length := by simp at hi; omega
          subst this; rw [entAt_eq]; exact hu.may n (by omega)
      · by_cases c : i < (swG E p n).length
        · rw [entAt_lt c, entAt_lt (by omega)]; exact ih.diff k i hk c
        · have : i = (swG E p n).length := by simp at hi; omega
          subst this; rw [entAt_eq, entAt_lt hk]
          obtain ⟨a, ha, e⟩ := swG_from E p n k hk
          rw [e]; exact hu.diff a n ha (by omega)
theorem swM_gone (M : List Int → Option Int) : ∀ n j, j < (swG E p n).length → mget (swM M E p n) (eKey (entAt (swG E p n) j)) = 0
  | 0, j, h => absurd h (Nat.not_lt_zero j)
  | n + 1, j, h => by
    cases hp : p n with
    | false => rw [swG_f hp] at h ⊢; rw [swM_f hp]; exact swM_gone M n j h
    | true =>
      rw [swG_t hp] at h ⊢; rw [swM_t hp]
      by_cases c : eKey (entAt (swG E p n ++ [E n]) j) = eKey (E n)
      · rw [c]; exact get_none _
      · rw [get_ne c]
        by_cases d : j < (swG E p n).length
        · rw [entAt_lt d]; exact swM_gone M n j d
        · have : j = (swG E p n).length := by simp at h; omega
          subst this; rw [entAt_eq] at c; exact (c rfl).elim
end
theorem swG_all {E : Nat → Ent} {p : Nat → Bool} : ∀ n, (∀ i, i < n → p i = true) → (swG E p n).length = n ∧ swS E p n = []
  | 0, _ => ⟨rfl, rfl⟩
  | n + 1, h => by
    obtain ⟨h1, h2⟩ := swG_all (E := E) n (fun i hi => h i (by omega))
    rw [swG_t (h n (by omega)), swS_t (h n (by omega))]
    exact ⟨by simp [h1], h2⟩

/-! ### what was swept comes in again -/
def reN (s : LS) (G : Nat → Ent) : Nat → LS
  | 0 => s
  | j + 1 => lsAdd (reN s G j) (G j)
theorem re_ok {s : LS} {G : Nat → Ent} {g : Nat} (hu : Uq g G) (h0 : ∀ j, j < g → mget s.M (eKey (G j)) = 0) : ∀ j, j ≤ g → (reN s G j).n = s.n + j ∧ (∀ k, j ≤ k → k < g → mget (reN s G j).M (eKey (G k)) = 0)
  | 0, _ => ⟨rfl, fun k _ hk => h0 k hk⟩
  | j + 1, h => by
    obtain ⟨h1, h2⟩ := re_ok hu h0 j (by omega)
    have hc : (addE (reN s G j).M (G j) == 0) = true := by rw [add_ok (hu.may j (by omega)) (h2 j (Nat.le_refl _) (by omega))]; rfl
    refine ⟨?_, fun k hk hkg => ?_⟩
    · show addN _ _ _ = _; rw [addN_t hc, h1]; omega
    · show mget (addM _ _) _ = 0
      rw [addM_t hc, get_ne (fun e => hu.diff j k (by omega) hkg e.symm)]
      exact h2 k (by omega) hkg
theorem re_add {s : LS} {G : Nat → Ent} {g j : Nat} (hu : Uq g G) (h0 : ∀ j, j < g → mget s.M (eKey (G j)) = 0) (hj : j < g) : addE (reN s G j).M (G j) = 0 ∧ addE (reN s G (j + 1)).M (G j) = 8 := by
  obtain ⟨h1, h2⟩ := re_ok hu h0 j (by omega)
  have hc := add_ok (hu.may j hj) (h2 j (Nat.le_refl _) hj)
  refine ⟨hc, add_same (hu.may j hj) ?_⟩
  show mget (addM _ _) _ = 1
  rw [addM_t (by rw [hc]; rfl), get_set]
end Go.Proofs.Ytmlfmmnnbdlabaa
