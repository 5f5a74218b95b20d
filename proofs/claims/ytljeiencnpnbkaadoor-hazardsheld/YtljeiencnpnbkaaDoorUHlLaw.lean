/-
  Hazards: what is held: the plain law.
-/
import Derived.Test.YtljeiencnpnbkaaDoorEvRefs
import Derived.Test.YtljeiencnpnbkaaDoorEvWords
set_option linter.unusedSimpArgs false
set_option linter.unusedVariables false
namespace Go.Proofs.YtljeiencnpnbkaaDoor
open Go.Ev
/-! ### what is held: the plain law -/
def insR (x : K2) : List K2 → List K2
  | [] => [x]
  | y :: r => if x = y then y :: r else if x.1 < y.1 ∨ x.1 = y.1 ∧ x.2 < y.2 then x :: y :: r else y :: insR x r
theorem insR_mem (x z : K2) : ∀ l, z ∈ insR x l ↔ z = x ∨ z ∈ l
  | [] => by simp [insR]
  | y :: r => by
    unfold insR
    split
    · rename_i e; subst e; simp
    · split
      · simp
      · rw [List.mem_cons, insR_mem x z r, List.mem_cons]
        constructor
        · rintro (h | h | h)
          · exact .inr (.inl h)
          · exact .inl h
          · exact .inr (.inr h)
        · rintro (h | h | h)
          · exact .inr (.inl h)
          · exact .inl h
          · exact .inr (.inr h)
theorem insR_sorted (x : K2) : ∀ l : List K2, l.Pairwise ltR → (insR x l).Pairwise ltR
  | [], _ => by simp [insR]
  | y :: r, h => by
    obtain ⟨h1, h2⟩ := List.pairwise_cons.1 h
    unfold insR
    split
    · exact h
    · rename_i hne
      split
      · rename_i hlt
        refine List.pairwise_cons.2 ⟨fun z hz => ?_, h⟩
        rcases List.mem_cons.1 hz with e | e
        · rw [e]; exact hlt
        · exact ltR_trans hlt (h1 z e)
      · rename_i hlt
        refine List.pairwise_cons.2 ⟨fun z hz => ?_, insR_sorted x r h2⟩
        rcases (insR_mem x z r).1 hz with e | e
        · rw [e]
          rcases Classical.em (ltR y x) with q | q
          · exact q
          · exact (hne (ltR_total hlt q)).elim
        · exact h1 z e
theorem insR_len (x : K2) : ∀ l : List K2, (insR x l).length ≤ l.length + 1
  | [] => by simp [insR]
  | y :: r => by
    unfold insR
    have := insR_len x r
    split
    · simp
    · split
      · simp
      · simp; omega
/-- A map of refs: values are counts, keys have no mark. -/
structure HMI (M : List Int → Option Int) (n : Nat) : Prop where
  l : ∃ l, IsHl M l ∧ l.length ≤ n
  k : ∀ a b c, M [a, b, c] ≠ none → c = 0
  v : ∀ k v, M k = some v → 1 ≤ v ∧ v ≤ n
  fin : FinM M n
theorem HMI.nil : HMI (fun _ => none) 0 := ⟨⟨[], ⟨List.Pairwise.nil, fun k => by simp⟩, Nat.le_refl _⟩, fun _ _ _ h => absurd rfl h, (fun _ _ h => by cases h), FinM.nil 0⟩
theorem setKey_get (M : List Int → Option Int) (k : List Int) (v : Option Int) (k' : List Int) : setKey M k v k' = if k' = k then v else M k' := by
  unfold setKey
  by_cases c : k' = k
  · simp [c]
  · simp [c]
theorem HMI.add {M : List Int → Option Int} {n : Nat} (h : HMI M n) (hn : n ≤ 1000) (w : Int) : HMI (hAdd M w) (n + 1) := by
  obtain ⟨⟨l, hl, hlen⟩, hk, hv, hf⟩ := h
  by_cases c : hSlot (hUn w) ≥ 0
  · rw [hAdd_y c]
    have hb : 0 ≤ mget M [hSlot (hUn w), rGen (hUn w), 0] ∧ mget M [hSlot (hUn w), rGen (hUn w), 0] ≤ n := by
      unfold mget
      split
      · rename_i v hv'
        have := hv _ _ hv'; omega
      · omega
    refine ⟨⟨insR (hSlot (hUn w), rGen (hUn w)) l, ⟨insR_sorted _ _ hl.sorted, fun k => ?_⟩, Nat.le_trans (insR_len _ _) (by omega)⟩, fun a b c' hne => ?_, fun k v hkv => ?_, hf.set _ _⟩
    · rw [insR_mem, setKey_get]
      by_cases e : [k.1, k.2, 0] = [hSlot (hUn w), rGen (hUn w), 0]
      · rw [if_pos e]
        simp at e
        exact ⟨fun _ => by simp, fun _ => .inl (Prod.ext e.1 e.2)⟩
      · rw [if_neg e, hl.mem]
        exact ⟨fun q => by
          rcases q with q | q
          · exact absurd (by rw [q]) e
          · exact q, fun q => .inr q⟩
    · rw [setKey_get] at hne
      by_cases e : [a, b, c'] = [hSlot (hUn w), rGen (hUn w), 0]
      · simp at e; exact e.2.2
      · rw [if_neg e] at hne; exact hk a b c' hne
    · rw [setKey_get] at hkv
      by_cases e : k = [hSlot (hUn w), rGen (hUn w), 0]
      · rw [if_pos e] at hkv
        cases hkv
        rw [wrap_nat64 _ (by omega) (by omega)]
        omega
      · rw [if_neg e] at hkv
        have := hv k v hkv; omega
  · rw [hAdd_n c]
    exact ⟨⟨l, hl, by omega⟩, hk, fun k v q => by have := hv k v q; omega, hf.mono (by omega)⟩
theorem hM_i (f : Nat → Nat → AV) : ∀ i, i ≤ 300 → HMI (hM f i) (3 * i)
  | 0, _ => HMI.nil
  | i + 1, hi => by
    have h := hM_i f i (by omega)
    exact ((h.add (by omega) _).add (by omega) _).add (by omega) _
theorem HMI.refM {M : List Int → Option Int} {n : Nat} (h : HMI M n) (hn : n ≤ 1000000) : RefM M 1000000 := ⟨h.fin.mono hn, h.k⟩
theorem HMI.hl {M : List Int → Option Int} {n : Nat} (h : HMI M n) : IsHl M (hlF M) ∧ (hlF M).length ≤ n := by
  obtain ⟨l, hl, hlen⟩ := h.l
  rw [hlF_eq hl]; exact ⟨hl, hlen⟩
/-- It may go just if its ref is not among those held. -/
theorem HMI.may {M : List Int → Option Int} {n : Nat} (h : HMI M n) (a b : Int) : mget M [a, b, 0] = 0 ↔ (a, b) ∉ hlF M := by
  rw [h.hl.1.mem]
  unfold mget
  cases e : M [a, b, 0] with
  | none => simp
  | some v =>
    have := h.v _ _ e
    simp
    omega
end Go.Proofs.YtljeiencnpnbkaaDoor
