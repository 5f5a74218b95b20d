/-
  A state as an instance of a template: names are changed, what is symbolic is compared by obligations.
-/
import Derived.Test.YtmndhjodbnojdaaDoorEvRen
import Derived.Test.YtmndhjodbnojdaaDoorEvLoc2
set_option linter.unusedSimpArgs false
set_option linter.unusedVariables false
namespace Go.Ev

/-- Where a template's new name comes from. -/
inductive Src where
  | nm (k : Nat)
  | nil (wd : Nat)

/-- Names from lo to hi are new. -/
structure CM where
  lo : Nat
  hi : Nat
  m : List (Nat × Src)

def CM.fresh (c : CM) (n : Nat) : Bool := match Nat.ble c.lo n with
  | true => Nat.blt n c.hi
  | false => false

/-- May the template's name n stand for the source's k? -/
def CM.same (c : CM) (n k : Nat) : Bool := match c.fresh n with
  | true => match get c.m n with
    | some (.nm k') => Nat.beq k' k
    | _ => false
  | false => Nat.beq n k

def nilLoc (wd : Nat) : Loc := ⟨0, 0, wd, 0, true⟩

/-- The template's names. -/
def CM.ren (c : CM) (ρ : Ren) : Ren := fun n => match c.fresh n with
  | true => match get c.m n with
    | some (.nm k) => ρ k
    | some (.nil wd) => some (nilLoc wd)
    | none => none
  | false => ρ n

theorem CM.same_ren {c : CM} {n k : Nat} (h : c.same n k = true) (ρ : Ren) : c.ren ρ n = ρ k := by
  unfold CM.same at h
  unfold CM.ren
  split at h
  · rename_i hf
    split at h
    · rename_i k' hg
      have := Nat.eq_of_beq_eq_true h
      subst this
      simp [hg]
    · cases h
  · rename_i hf
    have := Nat.eq_of_beq_eq_true h
    subst this
    rfl

mutual
def castVal (c : CM) : (src tmpl : AV) → Option (List Prop)
  | .int k n, .int k' n' => match decide (k = k'), decide (n = n') with
    | true, true => some []
    | _, _ => none
  | .sym k n, .int k' n' => match decide (k = k') with
    | true => some [n = n']
    | false => none
  | .int k n, .sym k' n' => match decide (k = k') with
    | true => some [n = n']
    | false => none
  | .sym k n, .sym k' n' => match decide (k = k') with
    | true => some [n = n']
    | false => none
  | .bool b, .bool b' => match b, b' with
    | true, true => some []
    | false, false => some []
    | _, _ => none
  | .bool b, .symb b' => some [b = b']
  | .symb b, .bool b' => some [b = b']
  | .symb b, .symb b' => some [b = b']
  | .nilp, .nilp => some []
  | .nils, .nils => some []
  | .nilm, .nilm => some []
  | .nilf, .nilf => some []
  | .nili, .nili => some []
  | .ptr k i j, .ptr n i' j' => match c.same n k with
    | true => some [i = i', j = j']
    | false => none
  | .xs wd k o l x, .xs wd' n o' l' x' => match c.same n k, Nat.beq wd wd' with
    | true, true => some [o = o', l = l', x = x']
    | _, _ => none
  | .xs wd k o l x, .ss wd' n o' l' x' => match c.same n k, Nat.beq wd wd' with
    | true, true => some [o = o', l = l', x = x']
    | _, _ => none
  | .ss wd k o l x, .ss wd' n o' l' x' => match c.same n k, Nat.beq wd wd' with
    | true, true => some [o = o', l = l', x = x']
    | _, _ => none
  | .nils, .ss wd' n o' l' x' => match c.fresh n, get c.m n with
    | true, some (.nil wd) => match Nat.beq wd wd' with
      | true => some [0 = o', 0 = l', x' = none]
      | false => none
    | _, _ => none
  | .map k, .map n => match c.same n k with
    | true => some []
    | false => none
  | .iface t v, .iface t' v' => match Nat.beq t t' with
    | true => castVal c v v'
    | false => none
  | .agg l, .agg l' => castVals c l l'
  | .tup l, .tup l' => castVals c l l'
  | .func f l m, .func f' l' m' => match decide (f = f'), castVals c l l', castVals c m m' with
    | true, some a, some b => some (a ++ b)
    | _, _, _ => none
  | _, _ => none
def castVals (c : CM) : (src tmpl : List AV) → Option (List Prop)
  | [], [] => some []
  | v :: l, v' :: l' => match castVal c v v', castVals c l l' with
    | some a, some b => some (a ++ b)
    | _, _ => none
  | _, _ => none
end

/-- .. where what is not asked for need not be known. -/
def castTop (c : CM) (src tmpl : AV) : Option (List Prop) := match tmpl with
  | .top => some []
  | v => castVal c src v

def castTops (c : CM) : (src tmpl : List AV) → Option (List Prop)
  | [], [] => some []
  | v :: l, v' :: l' => match castTop c v v', castTops c l l' with
    | some a, some b => some (a ++ b)
    | _, _ => none
  | _, _ => none

theorem all_append {a b : List Prop} (h : ∀ p ∈ a ++ b, p) : (∀ p ∈ a, p) ∧ ∀ p ∈ b, p := ⟨fun p hp => h p (List.mem_append_left _ hp), fun p hp => h p (List.mem_append_right _ hp)⟩

mutual
theorem castVal_ok {c : CM} {ρ : Ren} : ∀ (s t : AV) (ob : List Prop), castVal c s t = some ob → (∀ p ∈ ob, p) → ∀ x, den ρ s = some x → den (c.ren ρ) t = some x
  | s, t, ob, h, ho, x, hx => by
    unfold castVal at h
    split at h
    · split at h
      · rename_i k n k' n' a b
        have := of_decide_eq_true a; subst this
        have := of_decide_eq_true b; subst this
        simpa [den] using hx
      · cases h
    · split at h
      · rename_i k n k' n' _ a
        have := of_decide_eq_true a; subst this
        cases h
        have := ho _ (List.mem_cons_self ..); subst this
        simpa [den] using hx
      · cases h
    · split at h
      · rename_i k n k' n' _ a
        have := of_decide_eq_true a; subst this
        cases h
        have := ho _ (List.mem_cons_self ..); subst this
        simpa [den] using hx
      · cases h
    · split at h
      · rename_i k n k' n' _ a
        have := of_decide_eq_true a; subst this
        cases h
        have := ho _ (List.mem_cons_self ..); subst this
        simpa [den] using hx
      · cases h
    · split at h
      · simpa [den] using hx
      · simpa [den] using hx
      · cases h
    · cases h
      have := ho _ (List.mem_cons_self ..); subst this
      simpa [den] using hx
    · cases h
      have := ho _ (List.mem_cons_self ..); subst this
      simpa [den] using hx
    · cases h
      have := ho _ (List.mem_cons_self ..); subst this
      simpa [den] using hx
    · simpa [den] using hx
    · simpa [den] using hx
    · simpa [den] using hx
    · simpa [den] using hx
    · simpa [den] using hx
    · split at h
      · rename_i hs
        cases h
        have h1 := ho _ (List.mem_cons_self ..); subst h1
        have h2 := ho _ (List.mem_cons_of_mem _ (List.mem_cons_self ..)); subst h2
        simp only [den] at hx ⊢
        rw [CM.same_ren hs]; exact hx
      · cases h
    · split at h
      · rename_i hs hw
        cases h
        have hw := Nat.eq_of_beq_eq_true hw; subst hw
        have h1 := ho _ (List.mem_cons_self ..); subst h1
        have h2 := ho _ (List.mem_cons_of_mem _ (List.mem_cons_self ..)); subst h2
        have h3 := ho _ (List.mem_cons_of_mem _ (List.mem_cons_of_mem _ (List.mem_cons_self ..))); subst h3
        simp only [den] at hx ⊢
        rw [CM.same_ren hs]; exact hx
      · cases h
    · split at h
      · rename_i hs hw
        cases h
        have hw := Nat.eq_of_beq_eq_true hw; subst hw
        have h1 := ho _ (List.mem_cons_self ..); subst h1
        have h2 := ho _ (List.mem_cons_of_mem _ (List.mem_cons_self ..)); subst h2
        have h3 := ho _ (List.mem_cons_of_mem _ (List.mem_cons_of_mem _ (List.mem_cons_self ..))); subst h3
        simp only [den] at hx ⊢
        rw [CM.same_ren hs]
        split at hx
        · rename_i l hl
          split at hx
          · exact hx
          · cases hx
        · cases hx
      · cases h
    · split at h
      · rename_i hs hw
        cases h
        have hw := Nat.eq_of_beq_eq_true hw; subst hw
        have h1 := ho _ (List.mem_cons_self ..); subst h1
        have h2 := ho _ (List.mem_cons_of_mem _ (List.mem_cons_self ..)); subst h2
        have h3 := ho _ (List.mem_cons_of_mem _ (List.mem_cons_of_mem _ (List.mem_cons_self ..))); subst h3
        simp only [den] at hx ⊢
        rw [CM.same_ren hs]; exact hx
      · cases h
    · split at h
      · rename_i wd hf hg
        split at h
        · rename_i hw
          cases h
          have hw := Nat.eq_of_beq_eq_true hw; subst hw
          have h1 := ho _ (List.mem_cons_self ..)
          have h2 := ho _ (List.mem_cons_of_mem _ (List.mem_cons_self ..))
          have h3 := ho _ (List.mem_cons_of_mem _ (List.mem_cons_of_mem _ (List.mem_cons_self ..)))
          subst h1; subst h2; subst h3
          simp only [den] at hx ⊢
          have key : ∀ n, c.fresh n = true → get c.m n = some (.nil wd) → c.ren ρ n = some (nilLoc wd) := by
            intro n h1 h2; unfold CM.ren; rw [h1, h2]
          rw [key _ hf hg]
          simpa [nilLoc, Loc.slice, capOr] using hx
        · cases h
      · cases h
    · split at h
      · rename_i hs
        simp only [den] at hx ⊢
        rw [CM.same_ren hs]; exact hx
      · cases h
    · split at h
      · rename_i ht
        have ht := Nat.eq_of_beq_eq_true ht; subst ht
        simp only [den] at hx ⊢
        rename_i v v' 
        cases hv : den ρ _ with
        | none => rw [hv] at hx; cases hx
        | some y => rw [castVal_ok _ _ ob h ho y hv]; rw [hv] at hx; exact hx
      · cases h
    · simp only [den] at hx ⊢
      cases hv : denL ρ _ with
      | none => rw [hv] at hx; cases hx
      | some y => rw [castVals_ok _ _ ob h ho y hv]; rw [hv] at hx; exact hx
    · simp only [den] at hx ⊢
      cases hv : denL ρ _ with
      | none => rw [hv] at hx; cases hx
      | some y => rw [castVals_ok _ _ ob h ho y hv]; rw [hv] at hx; exact hx
    · split at h
      · rename_i hf ha hb
        have hf := of_decide_eq_true hf; subst hf
        cases h
        obtain ⟨o1, o2⟩ := all_append ho
        simp only [den] at hx ⊢
        cases hv : denL ρ _ with
        | none => rw [hv] at hx; cases hx
        | some y =>
          rw [hv] at hx
          cases hw : denL ρ _ with
          | none => rw [hw] at hx; cases hx
          | some z => rw [castVals_ok _ _ _ ha o1 y hv, castVals_ok _ _ _ hb o2 z hw]; rw [hw] at hx; exact hx
      · cases h
    · cases h
theorem castVals_ok {c : CM} {ρ : Ren} : ∀ (s t : List AV) (ob : List Prop), castVals c s t = some ob → (∀ p ∈ ob, p) → ∀ x, denL ρ s = some x → denL (c.ren ρ) t = some x
  | [], [], ob, h, ho, x, hx => by simpa [denL] using hx
  | v :: l, v' :: l', ob, h, ho, x, hx => by
    simp only [castVals] at h
    split at h
    · rename_i a b ha hb
      cases h
      obtain ⟨o1, o2⟩ := all_append ho
      simp only [denL] at hx ⊢
      cases hv : den ρ v with
      | none => rw [hv] at hx; cases hx
      | some y => cases hl : denL ρ l with
        | none => rw [hv, hl] at hx; cases hx
        | some ys =>
          rw [castVal_ok v v' a ha o1 y hv, castVals_ok l l' b hb o2 ys hl]
          rw [hv, hl] at hx; exact hx
    · cases h
  | [], _ :: _, ob, h, _, _, _ => by simp [castVals] at h
  | _ :: _, [], ob, h, _, _, _ => by simp [castVals] at h
end

theorem castTop_ok {c : CM} {ρ : Ren} {s t : AV} {ob : List Prop} (h : castTop c s t = some ob) (ho : ∀ p ∈ ob, p) {x : Value} (hx : relS ρ s x) : relS (c.ren ρ) t x := by
  unfold castTop at h
  split at h
  · exact .inl rfl
  · rcases hx with rfl | hx
    · simp [castVal] at h
    · exact .inr (castVal_ok s _ ob h ho x hx)

theorem castTops_ok {c : CM} {ρ : Ren} : ∀ (s t : List AV) (ob : List Prop), castTops c s t = some ob → (∀ p ∈ ob, p) → s.length = t.length ∧ ∀ (j : Nat) v, t[j]? = some v → ∃ u, s[j]? = some u ∧ ∀ x, relS ρ u x → relS (c.ren ρ) v x
  | [], [], ob, h, ho => ⟨rfl, fun j v hj => by simp at hj⟩
  | v :: l, v' :: l', ob, h, ho => by
    simp only [castTops] at h
    split at h
    · rename_i a b ha hb
      cases h
      obtain ⟨o1, o2⟩ := all_append ho
      obtain ⟨q1, q2⟩ := castTops_ok l l' b hb o2
      refine ⟨by simp [q1], fun j u hj => ?_⟩
      cases j with
      | zero => simp at hj; subst hj; exact ⟨v, rfl, fun x hx => castTop_ok ha o1 hx⟩
      | succ j => exact q2 j u (by simpa using hj)
    · cases h
  | [], _ :: _, ob, h, _ => by simp [castTops] at h
  | _ :: _, [], ob, h, _ => by simp [castTops] at h


/-! ### objects -/
/-- Row by row: the template's cells, and the source's. -/
def rowOb : (sh : List CK) → (j : Nat) → (src tmpl : Nat → AV) → Prop
  | [], _, _, _ => True
  | .int k :: r, j, f, g => g j = .sym k (avInt (f j)) ∧ rowOb r (j + 1) f g
  | .bool :: r, j, f, g => g j = .symb (avBool (f j)) ∧ rowOb r (j + 1) f g
  | .val :: _, _, _, _ => False

theorem rowOb_get {f g : Nat → AV} : ∀ (sh : List CK) (j0 : Nat), rowOb sh j0 f g → ∀ (j : Nat) k, sh[j]? = some k → (∃ i, k = .int i ∧ g (j0 + j) = .sym i (avInt (f (j0 + j)))) ∨ (k = .bool ∧ g (j0 + j) = .symb (avBool (f (j0 + j))))
  | [], _, _, j, k, h => by simp at h
  | .int i :: r, j0, ho, 0, k, h => by simp at h; subst h; exact .inl ⟨i, rfl, ho.1⟩
  | .bool :: r, j0, ho, 0, k, h => by simp at h; subst h; exact .inr ⟨rfl, ho.1⟩
  | .val :: r, j0, ho, 0, k, h => ho.elim
  | .int i :: r, j0, ho, j + 1, k, h => by
    have := rowOb_get r (j0 + 1) ho.2 j k (by simpa using h)
    rw [show j0 + 1 + j = j0 + (j + 1) by omega] at this; exact this
  | .bool :: r, j0, ho, j + 1, k, h => by
    have := rowOb_get r (j0 + 1) ho.2 j k (by simpa using h)
    rw [show j0 + 1 + j = j0 + (j + 1) by omega] at this; exact this
  | .val :: r, j0, ho, j + 1, k, h => ho.elim

theorem rowOb_cell {ρ ρ' : Ren} {f g : Nat → AV} {sh : List CK} (h : rowOb sh 0 f g) {j : Nat} {k : CK} (hj : sh[j]? = some k) (hk : kindOk k (f j)) {x : Value} (hx : den ρ (f j) = some x) : kindOk k (g j) ∧ den ρ' (g j) = some x := by
  have := rowOb_get sh 0 h j k hj
  rw [Nat.zero_add] at this
  rcases this with ⟨i, rfl, e⟩ | ⟨rfl, e⟩
  · obtain ⟨n, hn | hn⟩ := hk <;> rw [hn] at e hx <;> rw [e] <;> exact ⟨⟨_, .inr rfl⟩, by simpa [den, avInt] using hx⟩
  · obtain ⟨n, hn | hn⟩ := hk <;> rw [hn] at e hx <;> rw [e] <;> exact ⟨⟨_, .inr rfl⟩, by simpa [den, avBool] using hx⟩

/-- A cell that holds any value: the template's, and the source's. -/
def valV (c : CM) (s t : AV) : Prop := t.oneCell = true ∧ ∀ (ρ : Ren) x, den ρ s = some x → den (c.ren ρ) t = some x

/-- .. where cells may hold any value. -/
def rowV (c : CM) : (sh : List CK) → (j : Nat) → (src tmpl : Nat → AV) → Prop
  | [], _, _, _ => True
  | .int k :: r, j, f, g => g j = .sym k (avInt (f j)) ∧ rowV c r (j + 1) f g
  | .bool :: r, j, f, g => g j = .symb (avBool (f j)) ∧ rowV c r (j + 1) f g
  | .val :: r, j, f, g => valV c (f j) (g j) ∧ rowV c r (j + 1) f g

theorem rowV_get {c : CM} {f g : Nat → AV} : ∀ (sh : List CK) (j0 : Nat), rowV c sh j0 f g → ∀ (j : Nat) k, sh[j]? = some k → (∃ i, k = .int i ∧ g (j0 + j) = .sym i (avInt (f (j0 + j)))) ∨ (k = .bool ∧ g (j0 + j) = .symb (avBool (f (j0 + j)))) ∨ (k = .val ∧ valV c (f (j0 + j)) (g (j0 + j)))
  | [], _, _, j, k, h => by simp at h
  | .int i :: r, j0, ho, 0, k, h => by simp at h; subst h; exact .inl ⟨i, rfl, ho.1⟩
  | .bool :: r, j0, ho, 0, k, h => by simp at h; subst h; exact .inr (.inl ⟨rfl, ho.1⟩)
  | .val :: r, j0, ho, 0, k, h => by simp at h; subst h; exact .inr (.inr ⟨rfl, ho.1⟩)
  | .int i :: r, j0, ho, j + 1, k, h => by
    have := rowV_get r (j0 + 1) ho.2 j k (by simpa using h)
    rw [show j0 + 1 + j = j0 + (j + 1) by omega] at this; exact this
  | .bool :: r, j0, ho, j + 1, k, h => by
    have := rowV_get r (j0 + 1) ho.2 j k (by simpa using h)
    rw [show j0 + 1 + j = j0 + (j + 1) by omega] at this; exact this
  | .val :: r, j0, ho, j + 1, k, h => by
    have := rowV_get r (j0 + 1) ho.2 j k (by simpa using h)
    rw [show j0 + 1 + j = j0 + (j + 1) by omega] at this; exact this

theorem rowV_cell {c : CM} {ρ : Ren} {f g : Nat → AV} {sh : List CK} (h : rowV c sh 0 f g) {j : Nat} {k : CK} (hj : sh[j]? = some k) (hk : kindOk k (f j)) {x : Value} (hx : den ρ (f j) = some x) : kindOk k (g j) ∧ den (c.ren ρ) (g j) = some x := by
  have := rowV_get sh 0 h j k hj
  rw [Nat.zero_add] at this
  rcases this with ⟨i, rfl, e⟩ | ⟨rfl, e⟩ | ⟨rfl, e1, e2⟩
  · obtain ⟨n, hn | hn⟩ := hk <;> rw [hn] at e hx <;> rw [e] <;> exact ⟨⟨_, .inr rfl⟩, by simpa [den, avInt] using hx⟩
  · obtain ⟨n, hn | hn⟩ := hk <;> rw [hn] at e hx <;> rw [e] <;> exact ⟨⟨_, .inr rfl⟩, by simpa [den, avBool] using hx⟩
  · exact ⟨e1, e2 ρ x hx⟩

theorem rowOb_V (c : CM) {f g : Nat → AV} : ∀ (sh : List CK) (j : Nat), rowOb sh j f g → rowV c sh j f g
  | [], _, _ => trivial
  | .int _ :: r, j, h => ⟨h.1, rowOb_V c r (j + 1) h.2⟩
  | .bool :: r, j, h => ⟨h.1, rowOb_V c r (j + 1) h.2⟩
  | .val :: _, _, h => h.elim

/-- Explicit cells, as rows. -/
def listRow (wd : Nat) (l : List AV) (i j : Nat) : AV := match nth l (i * wd + j) with
  | some v => v
  | none => .top

/-- The kind of an explicit cell. -/
def kindB : CK → AV → Bool
  | .int k, .int k' _ => decide (k = k')
  | .int k, .sym k' _ => decide (k = k')
  | .bool, .bool _ => true
  | .bool, .symb _ => true
  | .val, v => v.oneCell
  | _, _ => false

def kindsB (wd : Nat) (l : List AV) (i : Nat) : (sh : List CK) → (j : Nat) → Bool
  | [], _ => true
  | k :: r, j => match kindB k (listRow wd l i j) with
    | true => kindsB wd l i r (j + 1)
    | false => false

def rowsB (wd : Nat) (l : List AV) (sh : List CK) : Nat → Bool
  | 0 => true
  | n + 1 => match kindsB wd l n sh 0 with
    | true => rowsB wd l sh n
    | false => false

theorem kindB_ok {k : CK} {v : AV} (h : kindB k v = true) : kindOk k v ∧ ∀ (ρ : Ren) x, relS ρ v x → den ρ v = some x := by
  unfold kindB at h
  split at h
  · have := of_decide_eq_true h; subst this
    exact ⟨⟨_, .inl rfl⟩, fun ρ x hx => by rcases hx with hx | hx; cases hx; exact hx⟩
  · have := of_decide_eq_true h; subst this
    exact ⟨⟨_, .inr rfl⟩, fun ρ x hx => by rcases hx with hx | hx; cases hx; exact hx⟩
  · exact ⟨⟨_, .inl rfl⟩, fun ρ x hx => by rcases hx with hx | hx; cases hx; exact hx⟩
  · exact ⟨⟨_, .inr rfl⟩, fun ρ x hx => by rcases hx with hx | hx; cases hx; exact hx⟩
  · refine ⟨h, fun ρ x hx => ?_⟩
    rcases hx with rfl | hx
    · simp [AV.oneCell] at h
    · exact hx
  · cases h

theorem kindsB_get {wd : Nat} {l : List AV} {i : Nat} : ∀ (sh : List CK) (j0 : Nat), kindsB wd l i sh j0 = true → ∀ (j : Nat) k, sh[j]? = some k → kindB k (listRow wd l i (j0 + j)) = true
  | [], _, _, j, k, h => by simp at h
  | k0 :: r, j0, ho, j, k, h => by
    simp only [kindsB] at ho
    split at ho
    · rename_i hk
      cases j with
      | zero => simp at h; subst h; exact hk
      | succ j =>
        have := kindsB_get r (j0 + 1) ho j k (by simpa using h)
        rw [show j0 + 1 + j = j0 + (j + 1) by omega] at this; exact this
    · cases ho

theorem rowsB_get {wd : Nat} {l : List AV} {sh : List CK} : ∀ (n : Nat), rowsB wd l sh n = true → ∀ i, i < n → ∀ (j : Nat) k, sh[j]? = some k → kindB k (listRow wd l i j) = true
  | 0, _, i, hi, _, _, _ => by omega
  | n + 1, h, i, hi, j, k, hj => by
    simp only [rowsB] at h
    split at h
    · rename_i hk
      by_cases e : i = n
      · subst e; have := kindsB_get sh 0 hk j k hj; rwa [Nat.zero_add] at this
      · exact rowsB_get n h i (by omega) j k hj
    · cases h

def castObj (c : CM) (src tmpl : AO) : Option (List Prop) := match src, tmpl with
  | .cells wd l, .cells wd' l' => match Nat.beq wd wd' with
    | true => castTops c l l'
    | false => none
  | .cells wd l, .arr wd' sh ro len f => match Nat.beq wd wd', Nat.beq sh.length wd, ro, Nat.ble 1 wd with
    | true, true, false, true => match Nat.beq (l.length / wd * wd) l.length, rowsB wd l sh (l.length / wd) with
      | true, true => match plainSh sh with
        | true => some [len = l.length / wd, ∀ i, i < len → rowOb sh 0 (listRow wd l i) (f i)]
        | false => some [len = l.length / wd, ∀ i, i < len → rowV c sh 0 (listRow wd l i) (f i)]
      | _, _ => none
    | _, _, _, _ => none
  | .arr wd sh ro len f, .arr wd' sh' ro' len' f' => match Nat.beq wd wd', shBeq sh sh' with
    | true, true => match plainSh sh with
      | true => some [ro = ro', len' ≤ len, (f' = f ∧ plainSh sh = true) ∨ ∀ i, i < len' → rowOb sh 0 (f i) (f' i)]
      | false => some [ro = ro', len' ≤ len, ∀ i, i < len' → rowV c sh 0 (f i) (f' i)]
    | _, _ => none
  | .map t f, .map t' f' => match Nat.beq t t' with
    | true => some [∀ k, f k = f' k]
    | false => none
  | _, _ => none

theorem castObj_ok {P : Program} {c : CM} {ρ : Ren} {w : World} {l : Loc} {s t : AO} {ob : List Prop} (h : castObj c s t = some ob) (ho : ∀ p ∈ ob, p) (hr : ObjRep P ρ w l s) : ObjRep P (c.ren ρ) w l t ∧ t.ro = s.ro := by
  unfold castObj at h
  split at h
  · rename_i wd cs wd' cs'
    split at h
    · rename_i hw
      have hw := Nat.eq_of_beq_eq_true hw; subst hw
      obtain ⟨q1, q2⟩ := castTops_ok (ρ := ρ) _ _ ob h ho
      obtain ⟨h0, h1, h2, cc, ty, fr, hb, hf, hc, hc2, hv⟩ := hr
      refine ⟨⟨h0, h1, h2, cc, ty, fr, hb, hf, by omega, hc2, fun j v hj => ?_⟩, rfl⟩
      obtain ⟨u, hu, hux⟩ := q2 j v hj
      obtain ⟨x, hx, hrx⟩ := hv j u hu
      exact ⟨x, hx, hux x hrx⟩
    · cases h
  · rename_i wd cs wd' sh ro len f
    split at h
    · rename_i hw hsh hw1
      split at h
      · rename_i hdiv hrows
        have hob : ob.length = 2 ∧ ob[0]? = some (len = cs.length / wd) ∧ ∀ p, ob[1]? = some p → p → ∀ i, i < len → rowV c sh 0 (listRow wd cs i) (f i) := by
          split at h
          · cases h; exact ⟨rfl, rfl, fun p hp hq => by cases hp; exact fun i hi => rowOb_V c sh 0 (hq i hi)⟩
          · cases h; exact ⟨rfl, rfl, fun p hp hq => by cases hp; exact hq⟩
        obtain ⟨hl2, hob0, hob1⟩ := hob
        have hw := Nat.eq_of_beq_eq_true hw; subst hw
        have hsh := Nat.eq_of_beq_eq_true hsh
        have hdiv := Nat.eq_of_beq_eq_true hdiv
        have hw1 : 1 ≤ wd := by simpa [Nat.ble_eq] using hw1
        have o1 := ho _ (List.mem_of_getElem? hob0)
        have o2 : ∀ i, i < len → rowV c sh 0 (listRow wd cs i) (f i) := by
          obtain ⟨p, hp⟩ : ∃ p, ob[1]? = some p := ⟨ob[1]'(by omega), List.getElem?_eq_getElem (by omega)⟩
          exact hob1 p hp (ho _ (List.mem_of_getElem? hp))
        obtain ⟨h0, h1, h2, cc, ty, fr, hb, hf, hc, hc2, hv⟩ := hr
        have hlen : len ≤ l.cap := by
          have : len * wd ≤ l.cap * wd := by rw [o1, hdiv]; exact hc
          exact Nat.le_of_mul_le_mul_right this hw1
        refine ⟨⟨h2, hsh, hlen, fun e => (by rw [h0] at e; cases e), fun _ => ⟨cc, ty, fr, hb, fun _ => hf, hc2, fun i hi j k hj => ?_⟩⟩, rfl⟩
        have hkb := rowsB_get _ hrows i (by omega) j k hj
        obtain ⟨kk, kd⟩ := kindB_ok hkb
        have hjw : j < wd := by have := (List.getElem?_eq_some_iff.1 hj).1; omega
        have hil : i * wd + j < cs.length := by
          have : (i + 1) * wd ≤ len * wd := Nat.mul_le_mul_right wd hi
          rw [Nat.succ_mul] at this
          rw [o1, hdiv] at this
          omega
        have hcell : cs[i * wd + j]? = some (listRow wd cs i j) := by
          simp only [listRow, nth_eq]
          rw [List.getElem?_eq_getElem hil]
        obtain ⟨x, hx, hrx⟩ := hv _ _ hcell
        have hd := kd ρ x hrx
        obtain ⟨k1, k2⟩ := rowV_cell (ρ := ρ) (o2 i hi) hj kk hd
        exact ⟨k1, x, by rw [Nat.add_assoc]; exact hx, k2⟩
      · cases h
    · cases h
  · rename_i wd sh ro len f wd' sh' ro' len' f'
    split at h
    · rename_i hw hs
      have hob : ob.length = 3 ∧ ob[0]? = some (ro = ro') ∧ ob[1]? = some (len' ≤ len) ∧ ∀ p, ob[2]? = some p → p → (f' = f ∧ plainSh sh = true) ∨ ∀ i, i < len' → rowV c sh 0 (f i) (f' i) := by
        split at h
        · cases h; exact ⟨rfl, rfl, rfl, fun p hp hq => by cases hp; exact hq.imp id (fun q i hi => rowOb_V c sh 0 (q i hi))⟩
        · cases h; exact ⟨rfl, rfl, rfl, fun p hp hq => by cases hp; exact .inr hq⟩
      obtain ⟨hl3, hob0, hob1, hob2⟩ := hob
      have hw := Nat.eq_of_beq_eq_true hw; subst hw
      have hs := shBeq_eq hs; subst hs
      have hro := ho _ (List.mem_of_getElem? hob0)
      subst hro
      have o1 := ho _ (List.mem_of_getElem? hob1)
      have o2 : (f' = f ∧ plainSh sh = true) ∨ ∀ i, i < len' → rowV c sh 0 (f i) (f' i) := by
        obtain ⟨p, hp⟩ : ∃ p, ob[2]? = some p := ⟨ob[2]'(by omega), List.getElem?_eq_getElem (by omega)⟩
        exact hob2 p hp (ho _ (List.mem_of_getElem? hp))
      obtain ⟨h1, h2, h3, h4, h5⟩ := hr
      refine ⟨⟨h1, h2, Nat.le_trans o1 h3, h4, fun hc => ?_⟩, rfl⟩
      obtain ⟨cc, ty, fr, hb, hf, hc2, hv⟩ := h5 hc
      refine ⟨cc, ty, fr, hb, hf, hc2, fun i hi j k hj => ?_⟩
      obtain ⟨kk, x, hx, hd⟩ := hv i (by omega) j k hj
      rcases o2 with ⟨rfl, hp⟩ | o2
      · refine ⟨kk, x, hx, ?_⟩
        rcases plainSh_get sh hp j k hj with ⟨q, rfl⟩ | rfl
        · obtain ⟨n, hn | hn⟩ := kk <;> rw [hn] at hd ⊢ <;> simpa [den] using hd
        · obtain ⟨n, hn | hn⟩ := kk <;> rw [hn] at hd ⊢ <;> simpa [den] using hd
      · obtain ⟨k1, k2⟩ := rowV_cell (ρ := ρ) (o2 i hi) hj kk hd
        exact ⟨k1, x, hx, k2⟩
    · cases h
  · rename_i t f t' f'
    split at h
    · rename_i ht
      cases h
      have ht := Nat.eq_of_beq_eq_true ht; subst ht
      have o1 := ho _ (List.mem_cons_self ..)
      obtain ⟨h0, h1, ks, agg, vk, hk, es, clock, hb, hbo, hm⟩ := hr
      refine ⟨⟨h0, h1, ks, agg, vk, hk, es, clock, hb, hbo, ?_⟩, rfl⟩
      have : f = f' := funext o1
      rw [← this]; exact hm
    · cases h
  · cases h

/-! ### heaps -/
def castNil (wd : Nat) : AO → Option (List Prop)
  | .arr wd' sh false len _ => match Nat.beq wd wd', Nat.beq sh.length wd with
    | true, true => some [len = 0]
    | _, _ => none
  | _ => none

def castEntry (c : CM) (h : List (Nat × AO)) (n : Nat) (o : AO) : Option (List Prop) := match c.fresh n with
  | true => match get c.m n with
    | some (.nm k) => match get h k with
      | some o1 => castObj c o1 o
      | none => none
    | some (.nil wd) => castNil wd o
    | none => none
  | false => match get h n with
    | some o1 => castObj c o1 o
    | none => none

def castHeap (c : CM) (h : List (Nat × AO)) : List (Nat × AO) → Option (List Prop)
  | [] => some []
  | (n, o) :: r => match castEntry c h n o, castHeap c h r with
    | some a, some b => some (a ++ b)
    | _, _ => none

/-- The source's name, if any. -/
def CM.src (c : CM) (n : Nat) : Option Nat := match c.fresh n with
  | true => match get c.m n with
    | some (.nm k) => some k
    | _ => none
  | false => some n

/-- No source twice. -/
def apartB (c : CM) : (seen : List Nat) → List (Nat × AO) → Bool
  | _, [] => true
  | seen, (n, _) :: r => match c.src n with
    | some k => match mem k seen with
      | true => false
      | false => apartB c (k :: seen) r
    | none => apartB c seen r

theorem castHeap_get {c : CM} {h : List (Nat × AO)} : ∀ (l : List (Nat × AO)) (ob : List Prop), castHeap c h l = some ob → (∀ p ∈ ob, p) → ∀ n o, get l n = some o → ∃ a, castEntry c h n o = some a ∧ ∀ p ∈ a, p
  | [], _, _, _, n, o, hn => by simp [get] at hn
  | (m, o') :: r, ob, e, ho, n, o, hn => by
    simp only [castHeap] at e
    split at e
    · rename_i a b ha hb
      cases e
      obtain ⟨o1, o2⟩ := all_append ho
      simp only [get] at hn
      split at hn
      · rename_i hm
        have hm := Nat.eq_of_beq_eq_true hm; subst hm
        cases hn
        exact ⟨a, ha, o1⟩
      · exact castHeap_get r b hb o2 n o hn
    · cases e

theorem apartB_get {c : CM} : ∀ (l : List (Nat × AO)) (seen : List Nat), apartB c seen l = true → (∀ n o k, get l n = some o → c.src n = some k → k ∉ seen) ∧ ∀ n m o o' k, get l n = some o → get l m = some o' → n ≠ m → c.src n = some k → c.src m ≠ some k
  | [], _, _ => ⟨fun n o k h => by simp [get] at h, fun n m o o' k h => by simp [get] at h⟩
  | (q, x) :: r, seen, h => by
    simp only [apartB] at h
    have hget : ∀ n o, get ((q, x) :: r) n = some o → n = q ∨ (n ≠ q ∧ get r n = some o) := by
      intro n o hn
      simp only [get] at hn
      split at hn
      · rename_i hm; exact .inl (Nat.eq_of_beq_eq_true hm).symm
      · rename_i hm
        refine .inr ⟨fun e => by subst e; simp at hm, hn⟩
    split at h
    · rename_i k0 hk0
      split at h
      · cases h
      · rename_i hmem
        have hmem : k0 ∉ seen := fun e => by rw [(mem_iff k0 seen).2 e] at hmem; cases hmem
        obtain ⟨i1, i2⟩ := apartB_get r (k0 :: seen) h
        refine ⟨fun n o k hn hk => ?_, fun n m o o' k hn hm hne hk hk' => ?_⟩
        · rcases hget n o hn with rfl | ⟨_, hn⟩
          · rw [hk0] at hk; cases hk; exact hmem
          · exact fun e => i1 n o k hn hk (List.mem_cons_of_mem _ e)
        · rcases hget n o hn with en | ⟨_, hn2⟩
          · rcases hget m o' hm with em | ⟨_, hm2⟩
            · exact hne (en.trans em.symm)
            · rw [en, hk0] at hk; cases hk
              exact i1 m o' _ hm2 hk' (List.mem_cons_self ..)
          · rcases hget m o' hm with em | ⟨_, hm2⟩
            · rw [em, hk0] at hk'; cases hk'
              exact i1 n o _ hn2 hk (List.mem_cons_self ..)
            · exact i2 n m o o' k hn2 hm2 hne hk hk'
    · rename_i hk0
      obtain ⟨i1, i2⟩ := apartB_get r seen h
      refine ⟨fun n o k hn hk => ?_, fun n m o o' k hn hm hne hk hk' => ?_⟩
      · rcases hget n o hn with rfl | ⟨_, hn⟩
        · rw [hk0] at hk; cases hk
        · exact i1 n o k hn hk
      · rcases hget n o hn with en | ⟨_, hn2⟩
        · rw [en, hk0] at hk; cases hk
        · rcases hget m o' hm with em | ⟨_, hm2⟩
          · rw [em, hk0] at hk'; cases hk'
          · exact i2 n m o o' k hn2 hm2 hne hk hk'


/-! ### states -/
def wrOk (h0 : List (Nat × AO)) (wr : List Nat) : List Nat → Bool
  | [] => true
  | n :: r => match get h0 n with
    | none => wrOk h0 wr r
    | some _ => match mem n wr with
      | true => wrOk h0 wr r
      | false => false

def oldOk (c : CM) (wr : List Nat) : List (Nat × AO) → Bool
  | [] => true
  | (n, _) :: r => match c.fresh n, get c.m n with
    | true, some (.nm k) => match c.fresh k, mem k wr with
      | false, false => false
      | _, _ => oldOk c wr r
    | _, _ => oldOk c wr r

def namesIn (lo hi : Nat) : List (Nat × Src) → Bool
  | [] => true
  | (n, _) :: r => match Nat.ble lo n, Nat.blt n hi with
    | true, true => namesIn lo hi r
    | _, _ => false

def subB (wr : List Nat) : List Nat → Bool
  | [] => true
  | n :: r => match mem n wr with
    | true => subB wr r
    | false => false

theorem subB_get {wr : List Nat} : ∀ (l : List Nat), subB wr l = true → ∀ n ∈ l, n ∈ wr
  | [], _, n, h => by cases h
  | k :: r, h, n, hn => by
    simp only [subB] at h
    split at h
    · rename_i hm
      rcases List.mem_cons.1 hn with rfl | hn
      · exact (mem_iff n wr).1 hm
      · exact subB_get r h n hn
    · cases h

def castSt (h0 : Hp) (m : List (Nat × Src)) (s T : St) : Option (List Prop) :=
  match subB T.hp.wr h0.wr, Nat.beq T.hp.hi h0.hi, Nat.ble h0.nxt T.hp.nxt, Nat.ble s.hp.nxt h0.hi, namesIn h0.nxt T.hp.nxt m, wrOk h0.heap T.hp.wr s.hp.wr, oldOk ⟨h0.nxt, h0.hi, m⟩ T.hp.wr T.hp.heap, apartB ⟨h0.nxt, h0.hi, m⟩ [] T.hp.heap with
  | true, true, true, true, true, true, true, true => match castTops ⟨h0.nxt, h0.hi, m⟩ s.tmps T.tmps, castHeap ⟨h0.nxt, h0.hi, m⟩ s.hp.heap T.hp.heap with
    | some a, some b => some (a ++ b)
    | _, _ => none
  | _, _, _, _, _, _, _, _ => none

theorem namesIn_get {lo hi : Nat} : ∀ (m : List (Nat × Src)), namesIn lo hi m = true → ∀ n x, get m n = some x → lo ≤ n ∧ n < hi
  | [], _, n, x, h => by simp [get] at h
  | (k, y) :: r, h, n, x, hn => by
    simp only [namesIn] at h
    split at h
    · rename_i a b
      simp only [get] at hn
      split at hn
      · rename_i e
        have e := Nat.eq_of_beq_eq_true e; subst e
        exact ⟨by simpa [Nat.ble_eq] using a, by simpa [Nat.blt_eq] using b⟩
      · exact namesIn_get r h n x hn
    · cases h

theorem wrOk_get {h0 : List (Nat × AO)} {wr : List Nat} : ∀ (l : List Nat), wrOk h0 wr l = true → ∀ n ∈ l, ∀ o, get h0 n = some o → n ∈ wr
  | [], _, n, h, _, _ => by cases h
  | k :: r, h, n, hn, o, ho => by
    simp only [wrOk] at h
    split at h
    · rename_i hk
      rcases List.mem_cons.1 hn with rfl | hn
      · rw [hk] at ho; cases ho
      · exact wrOk_get r h n hn o ho
    · split at h
      · rename_i hm
        rcases List.mem_cons.1 hn with rfl | hn
        · exact (mem_iff n wr).1 hm
        · exact wrOk_get r h n hn o ho
      · cases h

theorem oldOk_get {c : CM} {wr : List Nat} : ∀ (l : List (Nat × AO)), oldOk c wr l = true → ∀ n o k, get l n = some o → c.fresh n = true → get c.m n = some (.nm k) → c.fresh k = true ∨ k ∈ wr
  | [], _, n, o, k, h, _, _ => by simp [get] at h
  | (q, x) :: r, h, n, o, k, hn, hf, hk => by
    simp only [oldOk] at h
    have hget : n = q ∨ get r n = some o := by
      simp only [get] at hn
      split at hn
      · rename_i hm; exact .inl (Nat.eq_of_beq_eq_true hm).symm
      · exact .inr hn
    split at h
    · rename_i k' hfq hkq
      split at h
      · cases h
      · rename_i hno
        rcases hget with e | hn
        · subst e
          rw [hk] at hkq; cases hkq
          cases h1 : c.fresh k with
          | true => exact .inl rfl
          | false => cases h2 : mem k wr with
            | true => exact .inr ((mem_iff k wr).1 h2)
            | false => exact (hno h1 h2).elim
        · exact oldOk_get r h n o k hn hf hk
    · rename_i hno
      rcases hget with e | hn
      · subst e; exact (hno k hf hk).elim
      · exact oldOk_get r h n o k hn hf hk

theorem CM.fresh_iff {c : CM} {n : Nat} : c.fresh n = true ↔ c.lo ≤ n ∧ n < c.hi := by
  unfold CM.fresh
  split
  · rename_i h
    have : c.lo ≤ n := by simpa [Nat.ble_eq] using h
    simp [Nat.blt_eq, this]
  · rename_i h
    have : ¬ c.lo ≤ n := by intro e; have := Nat.ble_eq_true_of_le e; rw [this] at h; cases h
    simp [this]

theorem castEntry_ok {P : Program} {c : CM} {ρ : Ren} {w : World} {h : List (Nat × AO)} (hr : ∀ n o, get h n = some o → ∃ l, ρ n = some l ∧ ObjRep P ρ w l o) {n : Nat} {o : AO} {ob : List Prop} (e : castEntry c h n o = some ob) (ho : ∀ p ∈ ob, p) :
    ∃ l, c.ren ρ n = some l ∧ ObjRep P (c.ren ρ) w l o ∧ (l.cap ≠ 0 → ∃ k o1, c.src n = some k ∧ get h k = some o1 ∧ ρ k = some l ∧ o.ro = o1.ro) := by
  unfold castEntry at e
  split at e
  · rename_i hf
    split at e
    · rename_i k hk
      split at e
      · rename_i o1 h1
        obtain ⟨l, hl, hob⟩ := hr k o1 h1
        obtain ⟨q1, q2⟩ := castObj_ok e ho hob
        refine ⟨l, ?_, q1, fun _ => ⟨k, o1, ?_, h1, hl, q2⟩⟩
        · unfold CM.ren; rw [hf, hk]; exact hl
        · unfold CM.src; rw [hf, hk]
      · cases e
    · rename_i wd hk
      have hren : c.ren ρ n = some (nilLoc wd) := by unfold CM.ren; rw [hf, hk]
      refine ⟨nilLoc wd, hren, ?_, fun h => (h rfl).elim⟩
      unfold castNil at e
      split at e
      · rename_i wd' sh len f
        split at e
        · rename_i a b
          cases e
          have a := Nat.eq_of_beq_eq_true a; subst a
          have b := Nat.eq_of_beq_eq_true b
          have h0 := ho _ (List.mem_cons_self ..)
          subst h0
          exact ⟨rfl, b, Nat.le_refl _, fun _ => rfl, fun h => (h rfl).elim⟩
        · cases e
      · cases e
    · cases e
  · rename_i hf
    split at e
    · rename_i o1 h1
      obtain ⟨l, hl, hob⟩ := hr n o1 h1
      obtain ⟨q1, q2⟩ := castObj_ok e ho hob
      refine ⟨l, ?_, q1, fun _ => ⟨n, o1, ?_, h1, hl, q2⟩⟩
      · unfold CM.ren; rw [hf]; exact hl
      · unfold CM.src; rw [hf]
    · cases e

/-- A step whose new names lie below a bound. -/
structure StepB (P : Program) (B : Nat) (ρ : Ren) (h : Hp) (w : World) (ρ' : Ren) (h' : Hp) (w' : World) : Prop where
  le : Le ρ ρ'
  new : ∀ n l, ρ n = none → ρ' n = some l → h.nxt ≤ n ∧ n < B
  rep : HeapRep P ρ' h'.heap w'
  fr : Fr w w' (Owned ρ h.heap h'.wr)
  own : ∀ n o l, get h'.heap n = some o → ρ' n = some l → l.cap ≠ 0 → l.blk < w.heap.size → ∃ m o' l', get h.heap m = some o' ∧ o'.ro = o.ro ∧ ρ m = some l' ∧ l'.cap ≠ 0 ∧ l'.blk = l.blk ∧ (m = n ∨ m ∈ h'.wr)

/-- Like 'castSt_ok', where names from hi to B are left as they are. -/
theorem castSt_okB {P : Program} {B : Nat} {ρ0 ρ' : Ren} {h0 : Hp} {w0 w1 : World} {m : List (Nat × Src)} {s T : St} {ob : List Prop} (st : StepB P B ρ0 h0 w0 ρ' s.hp w1) (hB : h0.hi ≤ B) (f0 : Fresh ρ0 h0.nxt B)
    (e : castSt h0 m s T = some ob) (ho : ∀ p ∈ ob, p) {xs : List Value} (rel : RelL ρ' s.tmps xs) :
    ∃ ρ'', RelL ρ'' T.tmps xs ∧ StepB P B ρ0 h0 w0 ρ'' T.hp w1 ∧ (∀ n l, ρ0 n = none → ρ'' n = some l → n < T.hp.nxt ∨ h0.hi ≤ n) ∧ Fresh ρ'' T.hp.nxt T.hp.hi ∧ h0.nxt ≤ T.hp.nxt ∧ T.hp.hi = h0.hi ∧ (∀ n ∈ h0.wr, n ∈ T.hp.wr) ∧
      (∀ n, ¬ (h0.nxt ≤ n ∧ n < h0.hi) → ρ'' n = ρ' n) ∧
      (∀ n ∈ s.hp.wr, ∀ o, get h0.heap n = some o → n ∈ T.hp.wr) ∧
      ∀ n o l, get T.hp.heap n = some o → ρ'' n = some l → l.cap ≠ 0 → ∃ k o1, get s.hp.heap k = some o1 ∧ ρ' k = some l ∧ o.ro = o1.ro := by
  unfold castSt at e
  split at e
  case h_2 => cases e
  rename_i e0 e1 e2 e3 e4 e5 e6 e7
  split at e
  case h_2 => cases e
  rename_i a b ha hb
  cases e
  obtain ⟨oa, obb⟩ := all_append ho
  have e1 := Nat.eq_of_beq_eq_true e1
  have e2 : h0.nxt ≤ T.hp.nxt := by simpa [Nat.ble_eq] using e2
  have e3 : s.hp.nxt ≤ h0.hi := by simpa [Nat.ble_eq] using e3
  let c : CM := ⟨h0.nxt, h0.hi, m⟩
  have hold : ∀ n, c.fresh n = false → c.ren ρ' n = ρ' n := fun n h => by unfold CM.ren; rw [h]
  have hnone : ∀ n, c.fresh n = true → ρ0 n = none := fun n h => by
    have := CM.fresh_iff.1 h
    exact f0 n this.1 (Nat.lt_of_lt_of_le this.2 hB)
  have entry : ∀ n o, get T.hp.heap n = some o → ∃ l, c.ren ρ' n = some l ∧ ObjRep P (c.ren ρ') w1 l o ∧ (l.cap ≠ 0 → ∃ k o1, c.src n = some k ∧ get s.hp.heap k = some o1 ∧ ρ' k = some l ∧ o.ro = o1.ro) := fun n o hn => by
    obtain ⟨ob', h1, h2⟩ := castHeap_get _ b hb obb n o hn
    exact castEntry_ok (P := P) (w := w1) (ρ := ρ') (c := c) st.rep.1 h1 h2
  refine ⟨c.ren ρ', ?_, ⟨?_, ?_, ⟨?_, ?_⟩, ?_, ?_⟩, ?_, ?_, e2, e1, subB_get _ e0, fun n hn => hold n (by
      cases hf : c.fresh n with
      | false => rfl
      | true => exact (hn (CM.fresh_iff.1 hf)).elim), fun n hn o ho => wrOk_get _ e5 n hn o ho, fun n o l hn hl hc => by
        obtain ⟨l1, a1, a2, a3⟩ := entry n o hn
        rw [hl] at a1; cases a1
        obtain ⟨k1, p1, s1, g1, d1, ro1⟩ := a3 hc
        exact ⟨k1, p1, g1, d1, ro1⟩⟩
  · obtain ⟨q1, q2⟩ := castTops_ok (c := c) (ρ := ρ') _ _ a ha oa
    obtain ⟨r1, r2⟩ := rel
    refine ⟨q1.symm.trans r1, fun k v hk => ?_⟩
    obtain ⟨u, hu, hux⟩ := q2 k v hk
    obtain ⟨x, hx, hrx⟩ := r2 k u hu
    exact ⟨x, hx, hux x hrx⟩
  · intro n l hn
    have : c.fresh n = false := by
      cases h : c.fresh n with
      | false => rfl
      | true => rw [hnone n h] at hn; cases hn
    rw [hold n this]
    exact st.le n l hn
  · intro n l h1 h2
    cases hf : c.fresh n with
    | true => exact ⟨(CM.fresh_iff.1 hf).1, Nat.lt_of_lt_of_le (CM.fresh_iff.1 hf).2 hB⟩
    | false =>
      rw [hold n hf] at h2
      exact st.new n l h1 h2
  · intro n o hn
    obtain ⟨l, h1, h2, _⟩ := entry n o hn
    exact ⟨l, h1, h2⟩
  · intro n k o o' l l' hn hk hne hro hl hl' hc hc'
    obtain ⟨l1, a1, a2, a3⟩ := entry n o hn
    obtain ⟨l2, b1, b2, b3⟩ := entry k o' hk
    rw [hl] at a1; cases a1
    rw [hl'] at b1; cases b1
    obtain ⟨k1, p1, s1, g1, d1, ro1⟩ := a3 hc
    obtain ⟨k2, p2, s2, g2, d2, ro2⟩ := b3 hc'
    have hk12 : k1 ≠ k2 := fun x => (apartB_get _ _ e7).2 n k o o' k1 hn hk hne s1 (by rw [x]; exact s2)
    exact st.rep.2 k1 k2 p1 p2 _ _ g1 g2 hk12 (by rw [← ro1, ← ro2]; exact hro) d1 d2 hc hc'
  · refine ⟨st.fr.size, fun q hq hn => st.fr.same q hq (fun ⟨n, hnw, o, l, x1, x2, x3, x4, x5⟩ => hn ⟨n, wrOk_get _ e5 n hnw o x1, o, l, x1, x2, x3, x4, x5⟩), st.fr.tape, st.fr.os, st.fr.output⟩
  · intro n o l hn hl hc hlt
    obtain ⟨l1, a1, a2, a3⟩ := entry n o hn
    rw [hl] at a1; cases a1
    obtain ⟨k1, p1, s1, g1, d1, ro1⟩ := a3 hc
    obtain ⟨n2, o2, l2, y1, y2, y3, y4, y5, y6⟩ := st.own k1 p1 l g1 d1 hc hlt
    refine ⟨n2, o2, l2, y1, y2.trans ro1.symm, y3, y4, y5, ?_⟩
    have hwr : n2 ∈ s.hp.wr → n2 ∈ T.hp.wr := fun h => wrOk_get _ e5 n2 h o2 y1
    rcases y6 with rfl | y6
    · cases hf : c.fresh n with
      | false => unfold CM.src at s1; rw [hf] at s1; cases s1; exact .inl rfl
      | true =>
        have hg : get c.m n = some (.nm n2) := by
          unfold CM.src at s1; rw [hf] at s1; simp only at s1
          split at s1
          · rename_i k hk; cases s1; exact hk
          · cases s1
        rcases oldOk_get _ e6 n o n2 hn hf hg with h | h
        · rw [hnone n2 h] at y3; cases y3
        · exact .inr h
    · exact .inr (hwr y6)
  · intro n l h1 h2
    cases hf : c.fresh n with
    | true =>
      unfold CM.ren at h2
      rw [hf] at h2
      simp only at h2
      cases hg : get c.m n with
      | none => rw [hg] at h2; cases h2
      | some x => exact .inl (namesIn_get m e4 n x hg).2
    | false =>
      rw [hold n hf] at h2
      have h3 := (st.new n l h1 h2).1
      refine .inr ?_
      rcases Nat.lt_or_ge n h0.hi with h4 | h4
      · have : c.fresh n = true := CM.fresh_iff.2 ⟨h3, h4⟩
        rw [this] at hf; cases hf
      · exact h4
  · intro n h1 h2
    rw [e1] at h2
    have hf : c.fresh n = true := CM.fresh_iff.2 ⟨by show h0.nxt ≤ n; omega, h2⟩
    unfold CM.ren
    rw [hf]
    cases hg : get c.m n with
    | none => rfl
    | some x => have := (namesIn_get m e4 n x hg).2; omega

theorem castSt_ok {P : Program} {ρ0 ρ' : Ren} {h0 : Hp} {w0 w1 : World} {m : List (Nat × Src)} {s T : St} {ob : List Prop} (st : Step P ρ0 h0 w0 ρ' s.hp w1) (f0 : Fresh ρ0 h0.nxt h0.hi) (r0 : HeapRep P ρ0 h0.heap w0)
    (e : castSt h0 m s T = some ob) (ho : ∀ p ∈ ob, p) {xs : List Value} (rel : RelL ρ' s.tmps xs) :
    ∃ ρ'', RelL ρ'' T.tmps xs ∧ Step P ρ0 h0 w0 ρ'' T.hp w1 ∧ Fresh ρ'' T.hp.nxt T.hp.hi ∧ h0.nxt ≤ T.hp.nxt ∧ T.hp.hi = h0.hi ∧ ∀ n ∈ h0.wr, n ∈ T.hp.wr := by
  have hs : s.hp.nxt ≤ h0.hi := by
    unfold castSt at e
    split at e
    · rename_i e0 e1 e2 e3 e4 e5 e6 e7
      simpa [Nat.ble_eq] using e3
    · cases e
  obtain ⟨ρ'', q1, q2, q3, q4, q5, q6, q7, _⟩ := castSt_okB (B := h0.hi) ⟨st.le, fun n l a b => ⟨(st.new n l a b).1, Nat.lt_of_lt_of_le (st.new n l a b).2 hs⟩, st.rep, st.fr, st.own⟩ (Nat.le_refl _) f0 e ho rel
  refine ⟨ρ'', q1, ⟨q2.le, fun n l a b => ⟨(q2.new n l a b).1, ?_⟩, q2.rep, q2.fr, q2.own⟩, q4, q5, q6, q7⟩
  rcases q3 n l a b with h | h
  · exact h
  · have := (q2.new n l a b).2; omega

end Go.Ev
