/-
  EpochsHold: the plain law: threads that enter, exit, advance; while one is in the epoch moves once at most.
-/
import Derived.Test.YtmlfmmnnbdlabaaEvMemD
set_option linter.unusedSimpArgs false
set_option linter.unusedVariables false
namespace Go.Ev

/-- A thread. t: 0: nothing is under way; 1: an Enter that read; 2, 3, 4: an Advance: at the blocks, at thread p, at the move. -/
structure HO where
  t : Nat
  i : Bool
  a : Int
  e : Int
  p : Int
def hdW (S : MS) (k : Int) : Int := mget S.M (key 8 k 3)
def hdE (S : MS) : Int := mget S.M (key 1 0 0)
def hdS (S : MS) (j : Int) (adv : Bool) (o : HO) : MS := match o.t with
  | 0 => if adv = true then mLoad S 1 0 0 else if o.i = true then mStore S 8 j 3 0 else mLoad S 1 0 0
  | 1 => mLoad (mStore S 8 j 3 (2 * o.e + 1)) 1 0 0
  | 2 => mLoad S 5 0 0
  | 3 => mLoad S 8 o.p 3
  | _ => mCas S 1 0 0 o.e (o.e + 1)
def hdO (S : MS) (adv : Bool) (o : HO) : HO := match o.t with
  | 0 => if adv = true then ⟨2, o.i, o.a, hdE S, 0⟩ else if o.i = true then ⟨0, false, o.a, 0, 0⟩ else ⟨1, false, o.a, hdE S, 0⟩
  | 1 => ⟨0, true, hdE S, 0, 0⟩
  | 2 => ⟨3, o.i, o.a, o.e, 0⟩
  | 3 => if hdW S o.p % 2 = 1 ∧ hdW S o.p ≠ 2 * o.e + 1 then ⟨0, o.i, o.a, 0, 0⟩ else if o.p + 1 < 8 then ⟨3, o.i, o.a, o.e, o.p + 1⟩ else ⟨4, o.i, o.a, o.e, 8⟩
  | _ => ⟨0, o.i, o.a, 0, 0⟩
structure HX where
  S : MS
  O : Nat → HO
def hdDo (x : HX) (j : Nat) (adv : Bool) : HX := ⟨mLoad (hdS x.S j adv (x.O j)) 1 0 0, fun k => if k = j then hdO x.S adv (x.O j) else x.O k⟩

/-- What holds at every time. B: the epoch is no greater. -/
structure HInv (x : HX) (B : Int) : Prop where
  e0 : 0 ≤ hdE x.S
  eB : hdE x.S ≤ B
  bl : mget x.S.M (key 5 0 0) = 2
  out : ∀ k : Nat, k < 8 → (x.O k).i = false → hdW x.S k = 0
  ins : ∀ k : Nat, k < 8 → (x.O k).i = true → ∃ q, hdW x.S k = 2 * q + 1 ∧ 0 ≤ q ∧ q ≤ (x.O k).a ∧ (x.O k).a ≤ hdE x.S ∧ hdE x.S ≤ (x.O k).a + 1
  t : ∀ k : Nat, k < 8 → (x.O k).t ≤ 4
  t1 : ∀ k : Nat, k < 8 → (x.O k).t = 1 → (x.O k).i = false
  te : ∀ k : Nat, k < 8 → 1 ≤ (x.O k).t → 0 ≤ (x.O k).e ∧ (x.O k).e ≤ hdE x.S
  t3 : ∀ k : Nat, k < 8 → (x.O k).t = 3 → 0 ≤ (x.O k).p ∧ (x.O k).p < 8
  adv : ∀ k : Nat, k < 8 → 3 ≤ (x.O k).t → (x.O k).e = hdE x.S → ∀ l : Nat, l < 8 → ((x.O k).t = 3 → (l : Int) < (x.O k).p) → (x.O l).i = true → (x.O l).a = hdE x.S

theorem hdE_store (S : MS) (j v : Int) : hdE (mStore S 8 j 3 v) = hdE S := by
  unfold hdE mStore
  simp only [mget_put]
  rw [if_neg (by omega)]
theorem hdW_store (S : MS) {j : Nat} (hj : j < 8) (v : Int) (k : Nat) : hdW (mStore S 8 j 3 v) k = if k = j then v else hdW S k := by
  unfold hdW mStore
  simp only [mget_put]
  have hm : mayA 8 j 3 = true := by simp [mayA, kAt, kFl]; omega
  by_cases e : k = j
  · subst e; simp [hm]
  · rw [if_neg e, if_neg (fun h => e (by omega))]
theorem bl_store (S : MS) (j v : Int) : mget (mStore S 8 j 3 v).M (key 5 0 0) = mget S.M (key 5 0 0) := by
  unfold mStore
  simp only [mget_put]
  rw [if_neg (by omega)]
theorem may1 : mayA 1 0 0 = true := by decide
theorem casD1 (S : MS) (e : Int) : casD S.M 1 0 0 e = decide (hdE S = e) := by
  unfold casD hdE
  by_cases h : mget S.M (key 1 0 0) = e
  · simp [h, may1]
  · have : (mget S.M (key 1 0 0) == e) = false := by simpa using h
    rw [this]; simp [h]
theorem hdE_cas (S : MS) (e : Int) : hdE (mCas S 1 0 0 e (e + 1)) = if hdE S = e then e + 1 else hdE S := by
  have : mget (casM S.M 1 0 0 e (e + 1)) (key 1 0 0) = if hdE S = e then e + 1 else hdE S := by
    rw [casM_put, casD1]
    by_cases h : hdE S = e
    · simp [h, mget_put, may1]
    · simp [h]; rfl
  exact this
theorem hdW_cas (S : MS) (e k : Int) : hdW (mCas S 1 0 0 e (e + 1)) k = hdW S k := by
  have : mget (casM S.M 1 0 0 e (e + 1)) (key 8 k 3) = hdW S k := by
    rw [casM_put]
    split
    · rw [mget_put, if_neg (by omega)]; rfl
    · rfl
  exact this
theorem bl_cas (S : MS) (e : Int) : mget (mCas S 1 0 0 e (e + 1)).M (key 5 0 0) = mget S.M (key 5 0 0) := by
  have : mget (casM S.M 1 0 0 e (e + 1)) (key 5 0 0) = mget S.M (key 5 0 0) := by
    rw [casM_put]
    split
    · rw [mget_put, if_neg (by omega)]
    · rfl
  exact this

/-- A step keeps it; the epoch moves once at most. -/
theorem hd_step {x : HX} {B : Int} (h : HInv x B) {j : Nat} (hj : j < 8) (adv : Bool) : HInv (hdDo x j adv) (B + 1) ∧ hdE x.S ≤ hdE (hdDo x j adv).S ∧ hdE (hdDo x j adv).S ≤ hdE x.S + 1 := by
  obtain ⟨S, O⟩ := x
  obtain ⟨e0, eB, bl, out, ins, ht, t1, te, t3, ad⟩ := h
  simp only at e0 eB bl out ins ht t1 te t3 ad
  -- the memory does not change but at the epoch, or the thread's own word
  have same : ∀ (S' : MS) (o' : HO), S'.M = S.M → o'.t ≤ 4 → o'.i = (O j).i → o'.a = (O j).a → (1 ≤ o'.t → 0 ≤ o'.e ∧ o'.e ≤ hdE S) → (o'.t ≠ 1) → (o'.t = 3 → 0 ≤ o'.p ∧ o'.p < 8) →
      (3 ≤ o'.t → o'.e = hdE S → ∀ l : Nat, l < 8 → (o'.t = 3 → (l : Int) < o'.p) → (O l).i = true → (O l).a = hdE S) →
      HInv ⟨S', fun k => if k = j then o' else O k⟩ (B + 1) ∧ hdE S ≤ hdE S' ∧ hdE S' ≤ hdE S + 1 := by
    intro S' o' hM h1 h2 h3 h4 h5 h6 h7
    have hE : hdE S' = hdE S := by unfold hdE; rw [hM]
    have hW : ∀ k, hdW S' k = hdW S k := fun k => by unfold hdW; rw [hM]
    have hi : ∀ k : Nat, ((fun k => if k = j then o' else O k) k).i = (O k).i ∧ ((fun k => if k = j then o' else O k) k).a = (O k).a := by
      intro k
      by_cases e : k = j
      · subst e; simp [h2, h3]
      · simp [e]
    refine ⟨⟨by rw [hE]; exact e0, by show hdE S' ≤ _; rw [hE]; omega, by show mget S'.M _ = _; rw [hM]; exact bl, ?_, ?_, ?_, ?_, ?_, ?_, ?_⟩, by rw [hE]; omega, by rw [hE]; omega⟩
    · intro k hk hf
      rw [hW]
      exact out k hk (by rw [← (hi k).1]; exact hf)
    · intro k hk hf
      rw [hW, hE, (hi k).2]
      exact ins k hk (by rw [← (hi k).1]; exact hf)
    · intro k hk
      by_cases e : k = j
      · simp [e, h1]
      · simp [e, ht k hk]
    · intro k hk hf
      by_cases e : k = j
      · simp [e] at hf; exact (h5 hf).elim
      · simp [e] at hf ⊢; exact t1 k hk hf
    · intro k hk hf
      rw [hE]
      by_cases e : k = j
      · simp [e] at hf ⊢; exact h4 hf
      · simp [e] at hf ⊢; exact te k hk hf
    · intro k hk hf
      by_cases e : k = j
      · simp [e] at hf ⊢; exact h6 hf
      · simp [e] at hf ⊢; exact t3 k hk hf
    · intro k hk hf he l hl hp hin
      rw [hE] at he ⊢
      rw [(hi l).2]
      have hin : (O l).i = true := by rw [← (hi l).1]; exact hin
      by_cases e : k = j
      · simp [e] at hf he hp
        exact h7 hf he l hl hp hin
      · simp [e] at hf he hp
        exact ad k hk hf he l hl hp hin
  have tj := ht j hj
  show HInv ⟨mLoad (hdS S j adv (O j)) 1 0 0, fun k => if k = j then hdO S adv (O j) else O k⟩ (B + 1) ∧ hdE S ≤ hdE (hdS S j adv (O j)) ∧ hdE (hdS S j adv (O j)) ≤ hdE S + 1
  have key : HInv ⟨hdS S j adv (O j), fun k => if k = j then hdO S adv (O j) else O k⟩ (B + 1) ∧ hdE S ≤ hdE (hdS S j adv (O j)) ∧ hdE (hdS S j adv (O j)) ≤ hdE S + 1 := by
    rcases (show (O j).t = 0 ∨ (O j).t = 1 ∨ (O j).t = 2 ∨ (O j).t = 3 ∨ (O j).t = 4 by omega) with h | h | h | h | h
    · unfold hdS hdO
      rw [h]
      simp only
      cases adv with
      | true => exact same _ _ rfl (by simp) rfl rfl (fun _ => ⟨e0, Int.le_refl _⟩) (by simp) (fun q => by simp at q) (fun q => by simp at q)
      | false =>
        cases hi : (O j).i with
        | false =>
          -- an Enter reads
          have hM : (mLoad S 1 0 0).M = S.M := rfl
          simp only [Bool.false_eq_true, if_false]
          have hii : ∀ k : Nat, (if k = j then (⟨1, false, (O j).a, hdE S, 0⟩ : HO) else O k).i = (O k).i ∧ (if k = j then (⟨1, false, (O j).a, hdE S, 0⟩ : HO) else O k).a = (O k).a := by
            intro k
            by_cases e : k = j
            · subst e; simp [hi]
            · simp [e]
          refine ⟨⟨e0, by show hdE S ≤ _; omega, bl, ?_, ?_, ?_, ?_, ?_, ?_, ?_⟩, by show hdE S ≤ hdE S; omega, by show hdE S ≤ hdE S + 1; omega⟩
          · intro k hk hf
            exact out k hk (by rw [← (hii k).1]; exact hf)
          · intro k hk hf
            show ∃ q, hdW S k = _ ∧ 0 ≤ q ∧ q ≤ (if k = j then (_ : HO) else O k).a ∧ (if k = j then (_ : HO) else O k).a ≤ hdE S ∧ hdE S ≤ (if k = j then (_ : HO) else O k).a + 1
            rw [(hii k).2]
            exact ins k hk (by rw [← (hii k).1]; exact hf)
          · intro k hk
            by_cases e : k = j
            · simp [e]
            · simp [e, ht k hk]
          · intro k hk hf
            by_cases e : k = j
            · simp [e]
            · simp [e] at hf ⊢; exact t1 k hk hf
          · intro k hk hf
            by_cases e : k = j
            · simp [e]; exact ⟨e0, Int.le_refl _⟩
            · simp [e] at hf ⊢; exact te k hk hf
          · intro k hk hf
            by_cases e : k = j
            · simp [e] at hf
            · simp [e] at hf ⊢; exact t3 k hk hf
          · intro k hk hf he l hl hp hin
            have hin : (O l).i = true := by rw [← (hii l).1]; exact hin
            show (if l = j then (_ : HO) else O l).a = hdE S
            rw [(hii l).2]
            by_cases e : k = j
            · simp [e] at hf
            · simp [e] at hf he hp
              exact ad k hk hf he l hl hp hin
        | true =>
          -- it exits
          simp only [Bool.false_eq_true, if_false, if_true]
          have hE := hdE_store S (j : Int) 0
          have hW := hdW_store S hj 0
          have hii : ∀ k : Nat, (if k = j then (⟨0, false, (O j).a, 0, 0⟩ : HO) else O k).i = true → k ≠ j ∧ (O k).i = true := by
            intro k hf
            by_cases e : k = j
            · simp [e] at hf
            · simp [e] at hf; exact ⟨e, hf⟩
          refine ⟨⟨by rw [hE]; exact e0, by show hdE (mStore S 8 j 3 0) ≤ _; rw [hE]; omega, by show mget (mStore S 8 j 3 0).M _ = _; rw [bl_store]; exact bl, ?_, ?_, ?_, ?_, ?_, ?_, ?_⟩, by rw [hE]; omega, by rw [hE]; omega⟩
          · intro k hk hf
            rw [hW]
            by_cases e : k = j
            · simp [e]
            · simp [e] at hf ⊢; exact out k hk hf
          · intro k hk hf
            obtain ⟨e, hf⟩ := hii k hf
            rw [hW, hE]
            simp only [e, if_false]
            exact ins k hk hf
          · intro k hk
            by_cases e : k = j
            · simp [e]
            · simp [e, ht k hk]
          · intro k hk hf
            by_cases e : k = j
            · simp [e]
            · simp [e] at hf ⊢; exact t1 k hk hf
          · intro k hk hf
            rw [hE]
            by_cases e : k = j
            · simp [e] at hf
            · simp [e] at hf ⊢; exact te k hk hf
          · intro k hk hf
            by_cases e : k = j
            · simp [e] at hf
            · simp [e] at hf ⊢; exact t3 k hk hf
          · intro k hk hf he l hl hp hin
            obtain ⟨el, hin⟩ := hii l hin
            rw [hE] at he ⊢
            by_cases e : k = j
            · simp [e] at hf
            · simp [e] at hf he hp
              simp [el]
              exact ad k hk hf he l hl hp hin
    ·
      have hej := te j hj (by omega)
      have hij := t1 j hj h
      unfold hdS hdO
      rw [h]
      simp only
      have hE : hdE (mLoad (mStore S 8 j 3 (2 * (O j).e + 1)) 1 0 0) = hdE S := hdE_store S (j : Int) _
      have hW : ∀ k : Nat, hdW (mLoad (mStore S 8 j 3 (2 * (O j).e + 1)) 1 0 0) k = if k = j then 2 * (O j).e + 1 else hdW S k := hdW_store S hj _
      refine ⟨⟨by rw [hE]; exact e0, by show hdE _ ≤ _; rw [hE]; omega, by show mget (mStore S 8 j 3 _).M _ = _; rw [bl_store]; exact bl, ?_, ?_, ?_, ?_, ?_, ?_, ?_⟩, by rw [hE]; omega, by rw [hE]; omega⟩
      · intro k hk hf
        rw [hW]
        by_cases e : k = j
        · simp [e] at hf
        · simp [e] at hf ⊢; exact out k hk hf
      · intro k hk hf
        rw [hW, hE]
        by_cases e : k = j
        · simp [e]; exact ⟨(O j).e, rfl, hej.1, hej.2, by omega⟩
        · simp [e] at hf ⊢; exact ins k hk hf
      · intro k hk
        by_cases e : k = j
        · simp [e]
        · simp [e, ht k hk]
      · intro k hk hf
        by_cases e : k = j
        · simp [e] at hf
        · simp [e] at hf ⊢; exact t1 k hk hf
      · intro k hk hf
        rw [hE]
        by_cases e : k = j
        · simp [e] at hf
        · simp [e] at hf ⊢; exact te k hk hf
      · intro k hk hf
        by_cases e : k = j
        · simp [e] at hf
        · simp [e] at hf ⊢; exact t3 k hk hf
      · intro k hk hf he l hl hp hin
        rw [hE] at he ⊢
        by_cases e : k = j
        · simp [e] at hf
        · simp [e] at hf he hp
          by_cases el : l = j
          · simp [el]
          · simp [el] at hin ⊢
            exact ad k hk hf he l hl hp hin
    · have hej := te j hj (by omega)
      unfold hdS hdO
      rw [h]
      exact same _ _ rfl (by simp) rfl rfl (fun _ => hej) (by simp) (fun _ => by simp) (fun _ _ l _ hp _ => by
        have := hp rfl
        simp only at this
        omega)
    · have hej := te j hj (by omega)
      have hpj := t3 j hj h
      unfold hdS hdO
      rw [h]
      simp only
      -- who stands at p was in this very epoch, or is out
      have look : ¬ (hdW S (O j).p % 2 = 1 ∧ hdW S (O j).p ≠ 2 * (O j).e + 1) → (O j).e = hdE S → ∀ l : Nat, l < 8 → (l : Int) < (O j).p + 1 → (O l).i = true → (O l).a = hdE S := by
        intro hn he l hl hlp hin
        by_cases e : (l : Int) < (O j).p
        · exact ad j hj (by omega) he l hl (fun _ => e) hin
        · have : (l : Int) = (O j).p := by omega
          obtain ⟨q, h1, h2, h3, h4, h5⟩ := ins l hl hin
          rw [← this] at hn
          have : hdW S (l : Int) = 2 * (O j).e + 1 := Classical.not_not.1 (fun hne => hn ⟨by omega, hne⟩)
          omega
      split
      · exact same _ _ rfl (by simp) rfl rfl (fun q => by simp at q) (by simp) (fun q => by simp at q) (fun q => by simp at q)
      · rename_i hn
        split
        · rename_i hp8
          exact same _ _ rfl (by simp) rfl rfl (fun _ => hej) (by simp) (fun _ => ⟨by simp only; omega, hp8⟩) (fun _ he l hl hp hin => look hn he l hl (hp rfl) hin)
        · exact same _ _ rfl (by simp) rfl rfl (fun _ => hej) (by simp) (fun q => by simp at q) (fun _ he l hl hp hin => look hn he l hl (by omega) hin)
    ·
      have hej := te j hj (by omega)
      unfold hdS hdO
      rw [h]
      simp only
      by_cases hm : hdE S = (O j).e
      · have hE : hdE (mCas S 1 0 0 (O j).e ((O j).e + 1)) = hdE S + 1 := by rw [hdE_cas, if_pos hm]; omega
        have all : ∀ l : Nat, l < 8 → (O l).i = true → (O l).a = hdE S := fun l hl hin => ad j hj (by omega) hm.symm l hl (fun q => by omega) hin
        have hii : ∀ k : Nat, (if k = j then (⟨0, (O j).i, (O j).a, 0, 0⟩ : HO) else O k).i = (O k).i ∧ (if k = j then (⟨0, (O j).i, (O j).a, 0, 0⟩ : HO) else O k).a = (O k).a := by
          intro k
          by_cases e : k = j
          · subst e; simp
          · simp [e]
        refine ⟨⟨by rw [hE]; omega, by show hdE _ ≤ _; rw [hE]; omega, by show mget (mCas S 1 0 0 _ _).M _ = _; rw [bl_cas]; exact bl, ?_, ?_, ?_, ?_, ?_, ?_, ?_⟩, by rw [hE]; omega, by rw [hE]; omega⟩
        · intro k hk hf
          rw [hdW_cas]
          exact out k hk (by rw [← (hii k).1]; exact hf)
        · intro k hk hf
          rw [hdW_cas, hE]
          show ∃ q, hdW S k = _ ∧ 0 ≤ q ∧ q ≤ (if k = j then (_ : HO) else O k).a ∧ (if k = j then (_ : HO) else O k).a ≤ _ ∧ _ ≤ (if k = j then (_ : HO) else O k).a + 1
          rw [(hii k).2]
          have hin : (O k).i = true := by rw [← (hii k).1]; exact hf
          obtain ⟨q, h1, h2, h3, h4, h5⟩ := ins k hk hin
          have := all k hk hin
          exact ⟨q, h1, h2, h3, by omega, by omega⟩
        · intro k hk
          by_cases e : k = j
          · simp [e]
          · simp [e, ht k hk]
        · intro k hk hf
          by_cases e : k = j
          · simp [e] at hf
          · simp [e] at hf ⊢; exact t1 k hk hf
        · intro k hk hf
          rw [hE]
          by_cases e : k = j
          · simp [e] at hf
          · simp [e] at hf ⊢
            have := te k hk hf
            exact ⟨this.1, by omega⟩
        · intro k hk hf
          by_cases e : k = j
          · simp [e] at hf
          · simp [e] at hf ⊢; exact t3 k hk hf
        · intro k hk hf he l hl hp hin
          rw [hE] at he
          by_cases e : k = j
          · simp [e] at hf
          · simp [e] at hf he
            have := te k hk (by omega)
            omega
      · have hM : (mCas S 1 0 0 (O j).e ((O j).e + 1)).M = S.M := by
          show casM S.M 1 0 0 _ _ = _
          rw [casM_put, casD1]
          simp [hm]
        exact same _ _ hM (by simp) rfl rfl (fun q => by simp at q) (by simp) (fun q => by simp at q) (fun q => by simp at q)
  obtain ⟨k1, k2, k3⟩ := key
  exact ⟨⟨k1.e0, k1.eB, k1.bl, k1.out, k1.ins, k1.t, k1.t1, k1.te, k1.t3, k1.adv⟩, k2, k3⟩
end Go.Ev
