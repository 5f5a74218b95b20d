/-
  Other names: what they stand for.
-/
import Derived.Test.YtmlfmmnnbdlabaaEvRep
set_option linter.unusedSimpArgs false
set_option linter.unusedVariables false
namespace Go.Ev

theorem plainSh_get : ∀ (sh : List CK), plainSh sh = true → ∀ (j : Nat) k, sh[j]? = some k → (∃ i, k = .int i) ∨ k = .bool
  | [], _, j, k, h => by simp at h
  | .int i :: r, hp, 0, k, h => by simp at h; exact .inl ⟨i, h.symm⟩
  | .bool :: r, hp, 0, k, h => by simp at h; exact .inr h.symm
  | .val :: r, hp, j, k, h => by simp [plainSh] at hp
  | .int i :: r, hp, j + 1, k, h => plainSh_get r (by simpa [plainSh] using hp) j k (by simpa using h)
  | .bool :: r, hp, j + 1, k, h => plainSh_get r (by simpa [plainSh] using hp) j k (by simpa using h)

mutual
theorem renV_den {f : Nat → Option Nat} {ρ ρ' : Ren} (H : ∀ n k, f n = some k → ρ' k = ρ n) : ∀ (v v' : AV), renV f v = some v' → den ρ' v' = den ρ v
  | .top, v', e => by simp [renV] at e; subst e; rfl
  | .int .., v', e => by simp [renV] at e; subst e; simp [den]
  | .sym .., v', e => by simp [renV] at e; subst e; simp [den]
  | .bool .., v', e => by simp [renV] at e; subst e; simp [den]
  | .symb .., v', e => by simp [renV] at e; subst e; simp [den]
  | .nilp, v', e => by simp [renV] at e; subst e; simp [den]
  | .ptr b i j, v', e => by
    simp only [renV] at e
    split at e
    · rename_i k hk; cases e; simp only [den]; rw [H _ _ hk]
    · cases e
  | .nils, v', e => by simp [renV] at e; subst e; simp [den]
  | .xs wd b o l c, v', e => by
    simp only [renV] at e
    split at e
    · rename_i k hk; cases e; simp only [den]; rw [H _ _ hk]
    · cases e
  | .ss wd b o l c, v', e => by
    simp only [renV] at e
    split at e
    · rename_i k hk; cases e; simp only [den]; rw [H _ _ hk]
    · cases e
  | .nilm, v', e => by simp [renV] at e; subst e; simp [den]
  | .map b, v', e => by
    simp only [renV] at e
    split at e
    · rename_i k hk; cases e; simp only [den]; rw [H _ _ hk]
    · cases e
  | .nilf, v', e => by simp [renV] at e; subst e; simp [den]
  | .func g l m, v', e => by
    simp only [renV] at e
    split at e
    · rename_i l1 m1 h1 h2; cases e; simp only [den]; rw [renL_den H l l1 h1, renL_den H m m1 h2]
    · cases e
  | .nili, v', e => by simp [renV] at e; subst e; simp [den]
  | .iface t v, v', e => by
    simp only [renV] at e
    split at e
    · rename_i v1 h1; cases e; simp only [den]; rw [renV_den H v v1 h1]
    · cases e
  | .agg l, v', e => by
    simp only [renV] at e
    split at e
    · rename_i l1 h1; cases e; simp only [den]; rw [renL_den H l l1 h1]
    · cases e
  | .tup l, v', e => by
    simp only [renV] at e
    split at e
    · rename_i l1 h1; cases e; simp only [den]; rw [renL_den H l l1 h1]
    · cases e
  | .stamp n, v', e => by simp [renV] at e
  | .raw v, v', e => by simp [renV] at e; subst e; simp [den]
theorem renL_den {f : Nat → Option Nat} {ρ ρ' : Ren} (H : ∀ n k, f n = some k → ρ' k = ρ n) : ∀ (v v' : List AV), renL f v = some v' → denL ρ' v' = denL ρ v
  | [], v', e => by simp [renL] at e; subst e; simp [denL]
  | v :: r, v', e => by
    simp only [renL] at e
    split at e
    · rename_i v1 r1 h1 h2; cases e; simp only [denL]; rw [renV_den H v v1 h1, renL_den H r r1 h2]
    · cases e
end

theorem renV_rel {f : Nat → Option Nat} {ρ ρ' : Ren} (H : ∀ n k, f n = some k → ρ' k = ρ n) {v v' : AV} (e : renV f v = some v') {x : Value} (h : relS ρ v x) : relS ρ' v' x := by
  rcases h with rfl | h
  · simp [renV] at e; exact .inl e.symm
  · exact .inr (by rw [renV_den H v v' e]; exact h)

theorem renL_get {f : Nat → Option Nat} : ∀ (l l' : List AV), renL f l = some l' → l'.length = l.length ∧ ∀ (j : Nat) v', l'[j]? = some v' → ∃ v, l[j]? = some v ∧ renV f v = some v'
  | [], l', e => by simp [renL] at e; subst e; simp
  | v :: r, l', e => by
    simp only [renL] at e
    split at e
    · rename_i v1 r1 h1 h2
      cases e
      obtain ⟨q1, q2⟩ := renL_get r r1 h2
      refine ⟨by simp [q1], fun j u hj => ?_⟩
      cases j with
      | zero => simp at hj; subst hj; exact ⟨v, rfl, h1⟩
      | succ j => exact q2 j u (by simpa using hj)
    · cases e

theorem renO_rep {P : Program} {f : Nat → Option Nat} {ρ ρ' : Ren} {w : World} {l : Loc} (H : ∀ n k, f n = some k → ρ' k = ρ n) {o o' : AO} (e : renO f o = some o') (h : ObjRep P ρ w l o) : ObjRep P ρ' w l o' ∧ o'.ro = o.ro := by
  cases o with
  | cells wd cs =>
    simp only [renO] at e
    split at e
    · rename_i l1 h1
      cases e
      obtain ⟨h0, h1', h2, c, t, fr, hb, hf, hc, hc2, hv⟩ := h
      obtain ⟨q1, q2⟩ := renL_get cs l1 h1
      refine ⟨⟨h0, h1', h2, c, t, fr, hb, hf, by omega, hc2, fun j v hj => ?_⟩, rfl⟩
      obtain ⟨u, hu, hr⟩ := q2 j v hj
      obtain ⟨x, hx, hrx⟩ := hv j u hu
      exact ⟨x, hx, renV_rel H hr hrx⟩
    · cases e
  | arr wd sh ro len g =>
    simp only [renO] at e
    split at e
    · rename_i hp
      cases e
      obtain ⟨h1, h2, h3, h4, h5⟩ := h
      refine ⟨⟨h1, h2, h3, h4, fun hc => ?_⟩, rfl⟩
      obtain ⟨c, t, fr, hb, hf, hc2, hv⟩ := h5 hc
      refine ⟨c, t, fr, hb, hf, hc2, fun i hi j k hj => ?_⟩
      obtain ⟨kk, x, hx, hd⟩ := hv i hi j k hj
      refine ⟨kk, x, hx, ?_⟩
      rcases plainSh_get sh hp j k hj with ⟨q, rfl⟩ | rfl
      · obtain ⟨n, hn | hn⟩ := kk <;> rw [hn] at hd ⊢ <;> simpa [den] using hd
      · obtain ⟨n, hn | hn⟩ := kk <;> rw [hn] at hd ⊢ <;> simpa [den] using hd
    · cases e
  | map t m =>
    simp only [renO] at e
    cases e
    exact ⟨h, rfl⟩
  | mapP t m n k => simp [renO] at e


theorem idxOf_get : ∀ (r : List Nat) (k n i : Nat), idxOf r k n = some i → k ≤ i ∧ r[i - k]? = some n
  | [], k, n, i, h => by simp [idxOf] at h
  | b :: r, k, n, i, h => by
    simp only [idxOf] at h
    split at h
    · rename_i hb; cases h
      have := Nat.eq_of_beq_eq_true hb; subst this
      simp
    · obtain ⟨h1, h2⟩ := idxOf_get r (k + 1) n i h
      refine ⟨by omega, ?_⟩
      rw [show i - k = (i - (k + 1)) + 1 by omega]
      simpa using h2

theorem idxOf_mem : ∀ (r : List Nat) (k n : Nat), n ∈ r → ∃ i, idxOf r k n = some i
  | [], k, n, h => by cases h
  | b :: r, k, n, h => by
    simp only [idxOf]
    split
    · exact ⟨_, rfl⟩
    · rename_i hb
      rcases List.mem_cons.1 h with rfl | h
      · simp at hb
      · exact idxOf_mem r (k + 1) n h

theorem notGlob_mem : ∀ (l : List Nat) (n : Nat), n ∈ notGlob l ↔ n ∈ l ∧ n < gnm 0
  | [], n => by simp [notGlob]
  | m :: r, n => by
    simp only [notGlob]
    split
    · rename_i h
      have h : gnm 0 ≤ m := Nat.le_of_ble_eq_true h
      rw [notGlob_mem r n]
      constructor
      · exact fun ⟨a, b⟩ => ⟨List.mem_cons_of_mem _ a, b⟩
      · rintro ⟨a, b⟩
        rcases List.mem_cons.1 a with rfl | a
        · omega
        · exact ⟨a, b⟩
    · rename_i h
      have h : ¬ gnm 0 ≤ m := fun e => by rw [Nat.ble_eq_true_of_le e] at h; cases h
      simp only [List.mem_cons]
      rw [notGlob_mem r n]
      constructor
      · rintro (rfl | ⟨a, b⟩)
        · exact ⟨.inl rfl, by omega⟩
        · exact ⟨.inr a, b⟩
      · rintro ⟨rfl | a, b⟩
        · exact .inl rfl
        · exact .inr ⟨a, b⟩

theorem nodupB_nd : ∀ (l : List Nat), nodupB l = true → l.Nodup
  | [], _ => List.nodup_nil
  | n :: r, h => by
    simp only [nodupB] at h
    split at h
    · cases h
    · rename_i hm
      exact List.nodup_cons.2 ⟨fun e => (by rw [(mem_iff n r).2 e] at hm; cases hm), nodupB_nd r h⟩

theorem locHeap_get {f : Nat → Option Nat} {heap : List (Nat × AO)} : ∀ (l : List Nat) (t : List (Nat × AO)), locHeap f heap l = some t →
    (∀ b ∈ l, ∃ k o o', f b = some k ∧ get heap b = some o ∧ renO f o = some o') ∧ ∀ k o', get t k = some o' → ∃ b ∈ l, ∃ o, f b = some k ∧ get heap b = some o ∧ renO f o = some o'
  | [], t, h => by simp [locHeap] at h; subst h; exact ⟨fun b hb => by simp at hb, fun k o' h => by simp [get] at h⟩
  | b :: l, t, h => by
    simp only [locHeap] at h
    split at h
    · rename_i k o hk ho
      split at h
      · rename_i o' t' hr ht
        cases h
        obtain ⟨q1, q2⟩ := locHeap_get l t' ht
        refine ⟨fun c hc => ?_, fun j o2 hj => ?_⟩
        · rcases List.mem_cons.1 hc with rfl | hc
          · exact ⟨k, o, o', hk, ho, hr⟩
          · exact q1 c hc
        · simp only [get] at hj
          split at hj
          · rename_i hb; cases hj
            have hb := Nat.eq_of_beq_eq_true hb; subst hb
            exact ⟨b, by simp, o, hk, ho, hr⟩
          · obtain ⟨c, hc, r⟩ := q2 j o2 hj
            exact ⟨c, List.mem_cons_of_mem _ hc, r⟩
      · cases h
    · cases h

/-- A heap behind a local call: what stands at a name. -/
theorem outHeap_get {g : Nat → Option Nat} {res heap : List (Nat × AO)} : ∀ (m : Nat) (hp : List (Nat × AO)), outHeap g res heap m = some hp → (∀ i j b, i ≤ m → j ≤ m → 1 ≤ i → 1 ≤ j → g i = some b → g j = some b → i = j) →
    (∀ l, 1 ≤ l → l ≤ m → ∃ b, g l = some b ∧ (∀ o, get hp b = some o → ∃ o', get res l = some o' ∧ renO g o' = some o)) ∧ ∀ b, (∀ l, 1 ≤ l → l ≤ m → g l ≠ some b) → get hp b = get heap b
  | 0, hp, h, _ => by simp [outHeap] at h; subst h; exact ⟨fun l h1 h2 => by omega, fun b _ => rfl⟩
  | m + 1, hp, h, inj => by
    simp only [outHeap] at h
    split at h
    · rename_i hp0 b h0 hb
      obtain ⟨q1, q2⟩ := outHeap_get m hp0 h0 (fun i j c hi hj => inj i j c (by omega) (by omega))
      have other : ∀ c, c ≠ b → get hp c = get hp0 c := by
        intro c hc
        split at h
        · split at h
          · cases h; rw [get_set, if_neg hc]
          · cases h
        · cases h; rw [get_del, if_neg hc]
      refine ⟨fun l h1 h2 => ?_, fun c hc => ?_⟩
      · by_cases hl : l = m + 1
        · subst hl
          refine ⟨b, hb, fun o ho => ?_⟩
          split at h
          · rename_i o' ho'
            split at h
            · rename_i o2 hr
              cases h
              rw [get_set, if_pos rfl] at ho
              cases ho
              exact ⟨o', ho', hr⟩
            · cases h
          · cases h
            rw [get_del, if_pos rfl] at ho; cases ho
        · obtain ⟨c, hc, r⟩ := q1 l h1 (by omega)
          refine ⟨c, hc, fun o ho => r o ?_⟩
          have : c ≠ b := fun e => by
            subst e
            exact hl (inj l (m + 1) c (by omega) (by omega) h1 (by omega) hc hb)
          rw [← other c this]; exact ho
      · have hcb : c ≠ b := fun e => by subst e; exact hc (m + 1) (by omega) (by omega) hb
        rw [other c hcb]
        exact q2 c (fun l h1 h2 => hc l h1 (by omega))
    · cases h

theorem outNames_get {g : Nat → Option Nat} : ∀ (l t : List Nat), outNames g l = some t → ∀ n ∈ l, n < gnm 0 ∧ ∃ b, g n = some b ∧ b ∈ t
  | [], t, h, n, hn => by cases hn
  | m :: r, t, h, n, hn => by
    simp only [outNames] at h
    split at h
    · rename_i b t' hm hb ht
      cases h
      rcases List.mem_cons.1 hn with rfl | hn
      · have hlt : n < gnm 0 := by
          rcases Nat.lt_or_ge n (gnm 0) with h | h
          · exact h
          · rw [Nat.ble_eq_true_of_le h] at hm; cases hm
        exact ⟨hlt, b, hb, by simp⟩
      · obtain ⟨q1, c, q2, q3⟩ := outNames_get r t' ht n hn
        exact ⟨q1, c, q2, List.mem_cons_of_mem _ q3⟩
    · cases h


theorem toLoc_spec {r : List Nat} {n k : Nat} (h : toLoc r n = some k) : (gnm 0 ≤ n ∧ k = n) ∨ (n < gnm 0 ∧ 1 ≤ k ∧ r[k - 1]? = some n) := by
  unfold toLoc at h
  split at h
  · rename_i hb; cases h; exact .inl ⟨Nat.le_of_ble_eq_true hb, rfl⟩
  · rename_i hb
    obtain ⟨h1, h2⟩ := idxOf_get r 1 n k h
    refine .inr ⟨?_, h1, h2⟩
    rcases Nat.lt_or_ge n (gnm 0) with h | h
    · exact h
    · rw [Nat.ble_eq_true_of_le h] at hb; cases hb

theorem toOut_spec {r : List Nat} {nxt k l b : Nat} (h : toOut r nxt k l = some b) : (gnm 0 ≤ l ∧ b = l) ∨ (l < gnm 0 ∧ ∃ m, l = m + 1 ∧ (r[m]? = some b ∨ (r.length ≤ m ∧ m - r.length < k ∧ b = nxt + (m - r.length)))) := by
  unfold toOut at h
  split at h
  · rename_i hb; cases h; exact .inl ⟨Nat.le_of_ble_eq_true hb, rfl⟩
  · rename_i hb
    have hlt : l < gnm 0 := by
      rcases Nat.lt_or_ge l (gnm 0) with h | h
      · exact h
      · rw [Nat.ble_eq_true_of_le h] at hb; cases hb
    refine .inr ⟨hlt, ?_⟩
    split at h
    · cases h
    · rename_i m
      refine ⟨m, rfl, ?_⟩
      split at h
      · rename_i c hc; cases h; rw [nth_eq] at hc; exact .inl hc
      · rename_i hc
        rw [nth_eq] at hc
        split at h
        · rename_i hk; cases h
          exact .inr ⟨by simpa using hc, by simpa [Nat.blt_eq] using hk, rfl⟩
        · cases h

theorem toOut_old {r : List Nat} {nxt k m b : Nat} (hm : 1 ≤ m) (hlt : m < gnm 0) (h : r[m - 1]? = some b) : toOut r nxt k m = some b := by
  unfold toOut
  have hb : Nat.ble (gnm 0) m = false := by
    cases e : Nat.ble (gnm 0) m with
    | false => rfl
    | true => have := Nat.le_of_ble_eq_true e; omega
  rw [hb]
  cases m with
  | zero => omega
  | succ m => simp only [nth_eq]; simp at h; rw [h]


theorem outHeapP_get {g : Nat → Option Nat} {res heap : List (Nat × AO)} {p q : Nat} : ∀ (m : Nat) (hp : List (Nat × AO)), outHeapP g res heap p q m = some hp → (∀ i j b, i ≤ m → j ≤ m → 1 ≤ i → 1 ≤ j → g i = some b → g j = some b → i = j) →
    (∀ l, 1 ≤ l → l ≤ m → ¬ (p < l ∧ l ≤ q) → ∃ b, g l = some b ∧ (∀ o, get hp b = some o → ∃ o', get res l = some o' ∧ renO g o' = some o)) ∧ ∀ b, (∀ l, 1 ≤ l → l ≤ m → ¬ (p < l ∧ l ≤ q) → g l ≠ some b) → get hp b = get heap b
  | 0, hp, h, _ => by simp [outHeapP] at h; subst h; exact ⟨fun l h1 h2 => by omega, fun b _ => rfl⟩
  | m + 1, hp, h, inj => by
    simp only [outHeapP] at h
    split at h
    · rename_i h1 h2
      have h1 : p < m + 1 := by simpa [Nat.blt_eq] using h1
      have h2 : m + 1 ≤ q := Nat.le_of_ble_eq_true h2
      obtain ⟨q1, q2⟩ := outHeapP_get m hp h (fun i j c hi hj => inj i j c (by omega) (by omega))
      refine ⟨fun l a b c => ?_, fun b hb => q2 b (fun l a c d => hb l a (by omega) d)⟩
      by_cases e : l = m + 1
      · exact (c ⟨by omega, by omega⟩).elim
      · exact q1 l a (by omega) c
    · rename_i hpq
      have hpq : ¬ (p < m + 1 ∧ m + 1 ≤ q) := fun ⟨a, b⟩ => hpq (by simpa [Nat.blt_eq] using a) (Nat.ble_eq_true_of_le b)
      split at h
      · rename_i hp0 b h0 hb
        obtain ⟨q1, q2⟩ := outHeapP_get m hp0 h0 (fun i j c hi hj => inj i j c (by omega) (by omega))
        have other : ∀ c, c ≠ b → get hp c = get hp0 c := by
          intro c hc
          split at h
          · split at h
            · cases h; rw [get_set, if_neg hc]
            · cases h
          · cases h; rw [get_del, if_neg hc]
        refine ⟨fun l h1 h2 h3 => ?_, fun c hc => ?_⟩
        · by_cases hl : l = m + 1
          · subst hl
            refine ⟨b, hb, fun o ho => ?_⟩
            split at h
            · rename_i o' ho'
              split at h
              · rename_i o2 hr
                cases h
                rw [get_set, if_pos rfl] at ho
                cases ho
                exact ⟨o', ho', hr⟩
              · cases h
            · cases h
              rw [get_del, if_pos rfl] at ho; cases ho
          · obtain ⟨c, hc, r⟩ := q1 l h1 (by omega) h3
            refine ⟨c, hc, fun o ho => r o ?_⟩
            have : c ≠ b := fun e => by
              subst e
              exact hl (inj l (m + 1) c (by omega) (by omega) h1 (by omega) hc hb)
            rw [← other c this]; exact ho
        · have hcb : c ≠ b := fun e => by subst e; exact hc (m + 1) (by omega) (by omega) hpq hb
          rw [other c hcb]
          exact q2 c (fun l h1 h2 h3 => hc l h1 (by omega) h3)
      · cases h

theorem allIn_get {heap : List (Nat × AO)} : ∀ (l : List Nat), allIn heap l = true → ∀ n ∈ l, ∃ o, get heap n = some o
  | [], _, n, h => by cases h
  | m :: r, h, n, hn => by
    simp only [allIn] at h
    split at h
    · rename_i o ho
      rcases List.mem_cons.1 hn with rfl | hn
      · exact ⟨o, ho⟩
      · exact allIn_get r h n hn
    · cases h

theorem notGlobB_get : ∀ (l : List Nat), notGlobB l = true → ∀ n ∈ l, n < gnm 0
  | [], _, n, h => by cases h
  | m :: r, h, n, hn => by
    simp only [notGlobB] at h
    split at h
    · rename_i ho
      rcases List.mem_cons.1 hn with rfl | hn
      · simpa [Nat.blt_eq] using ho
      · exact notGlobB_get r h n hn
    · cases h

theorem noneAt_get {p q : Nat} : ∀ (l : List (Nat × AO)), noneAt p q l = true → ∀ n o, get l n = some o → ¬ (p < n ∧ n ≤ q)
  | [], _, n, o, h => by simp [get] at h
  | (m, x) :: r, h, n, o, hn => by
    simp only [noneAt] at h
    split at h
    · cases h
    · rename_i hno
      simp only [get] at hn
      split at hn
      · rename_i e
        have e := Nat.eq_of_beq_eq_true e; subst e
        exact fun ⟨a, b⟩ => hno (by simpa [Nat.blt_eq] using a) (Nat.ble_eq_true_of_le b)
      · exact noneAt_get r h n o hn
end Go.Ev
