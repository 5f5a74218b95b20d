/-
  HazardsHeld: definitions.
-/
import Derived.Test.YtljeiencnpnbkaaDoorUHq
set_option linter.unusedSimpArgs false
set_option linter.unusedVariables false
namespace Go.Proofs.YtljeiencnpnbkaaDoor
open Go.Ev
noncomputable def EHw : Env := envG Tryd.prog [(10, locSP hldSpec), (13, locSP mahSpec)]
theorem EHw_ok : EnvOk EHw := envG_ok mgood ⟨locSP_ok hldSpec_ok, locSP_ok mahSpec_ok, trivial⟩
theorem rf_at {L : List K2} {i : Nat} (h : i < L.length) : avInt (rfF L (0 + i) 0) = L[i].1 ∧ avInt (rfF L (0 + i) 1) = L[i].2 := by
  rw [Nat.zero_add]; unfold rfF; simp only [List.getElem?_eq_getElem h]; exact ⟨rfl, rfl⟩
theorem rf_b (L : List K2) (i : Nat) : avBool (rfF L i 2) = false := by unfold rfF; split <;> rfl
theorem wrapP {ii : Nat} (h0 : 0 < ii) (h1 : ii ≤ 1000) : IntKind.i64.wrap (Int.ofNat ii - 1) = Int.ofNat (ii - 1) := by
  rw [wrap_nat64 _ (by simp; omega) (by simp; omega)]; simp; omega
/-- Is a ref among the first ones? -/
def isF (L : List K2) (a b : Int) : Nat → Bool
  | 0 => false
  | k + 1 => isF L a b k || (avInt (rfF L (0 + k) 0) == a && avInt (rfF L (0 + k) 1) == b)
theorem isF_s (L : List K2) (a b : Int) (k : Nat) : isF L a b (k + 1) = (isF L a b k || (avInt (rfF L (0 + k) 0) == a && avInt (rfF L (0 + k) 1) == b)) := rfl
theorem isF_iff (L : List K2) (a b : Int) : ∀ n, n ≤ L.length → (isF L a b n = true ↔ (a, b) ∈ L.take n)
  | 0, _ => by simp [isF]
  | n + 1, h => by
    have hn : n < L.length := by omega
    obtain ⟨e1, e2⟩ := rf_at hn
    unfold isF
    rw [Bool.or_eq_true, isF_iff L a b n (by omega), e1, e2, Bool.and_eq_true, beq_iff_eq, beq_iff_eq, List.take_succ_eq_append_getElem hn, List.mem_append, List.mem_singleton]
    constructor
    · rintro (h | ⟨h1, h2⟩)
      · exact .inl h
      · exact .inr (Prod.ext h1.symm h2.symm)
    · rintro (h | h)
      · exact .inl h
      · rw [← h]; exact .inr ⟨rfl, rfl⟩
theorem isF_all (L : List K2) (a b : Int) : isF L a b L.length = true ↔ (a, b) ∈ L := by
  rw [isF_iff L a b _ (Nat.le_refl _), List.take_length]
theorem may_is {m : Nat} {f : Nat → Nat → AV} (hm : m ≤ 300) (a b : Int) : ((mget (hM f m) [a, b, 0] == 0) == isF (hlF (hM f m)) a b (hlF (hM f m)).length) = false := by
  have h := (hM_i f m hm).may a b
  have h2 := isF_all (hlF (hM f m)) a b
  cases h3 : isF (hlF (hM f m)) a b (hlF (hM f m)).length with
  | true => rw [h3] at h2; have h4 := h2.1 rfl; rw [beq_eq_false_iff_ne]; intro h5; exact h.1 (beq_iff_eq.1 h5) h4
  | false => rw [h3] at h2; rw [beq_eq_false_iff_ne]; intro h5; have h6 : mget (hM f m) [a, b, 0] ≠ 0 := fun e => by rw [e] at h5; cases h5
             exact h6 (h.2 (fun h7 => by cases h2.2 h7))
theorem ha_may {L : List K2} {m : Nat} {f : Nat → Nat → AV} (hL : L = hlF (hM f m)) (hm : m ≤ 300) {ii : Nat} (h : ii < L.length) : (mget (hM f m) [avInt (rfF L (0 + ii) 0), avInt (rfF L (0 + ii) 1), 0] == 0) = false := by
  obtain ⟨e1, e2⟩ := rf_at h
  rw [e1, e2, beq_eq_false_iff_ne]
  intro e
  exact ((hM_i f m hm).may _ _).1 e (hL ▸ List.getElem_mem h)
theorem ha_lt {L : List K2} {m : Nat} {f : Nat → Nat → AV} (hL : L = hlF (hM f m)) (hm : m ≤ 300) {ii : Nat} (h0 : 0 < ii) (h : ii < L.length) (h1 : ii ≤ 1000) :
    (0 + (IntKind.i64.wrap (Int.ofNat ii - 1)).toNat).blt L.length = true ∧ ((IntKind.i64.wrap (Int.ofNat ii - 1)).toNat.blt L.length && decide (0 ≤ IntKind.i64.wrap (Int.ofNat ii - 1))) = true ∧
    decide (avInt (rfF L (0 + (IntKind.i64.wrap (Int.ofNat ii - 1)).toNat) 0) > avInt (rfF L (0 + ii) 0)) = false ∧
    ((avInt (rfF L (0 + (IntKind.i64.wrap (Int.ofNat ii - 1)).toNat) 0) == avInt (rfF L (0 + ii) 0)) = true → decide (avInt (rfF L (0 + (IntKind.i64.wrap (Int.ofNat ii - 1)).toNat) 1) ≥ avInt (rfF L (0 + ii) 1)) = false) := by
  rw [wrapP h0 h1]
  have hp : ii - 1 < L.length := by omega
  have hs := ((hM_i f m hm).hl.1).sorted
  rw [← hL] at hs
  have hlt : ltR (L[ii - 1]) (L[ii]) := List.pairwise_iff_getElem.1 hs _ _ hp h (by omega)
  obtain ⟨e1, e2⟩ := rf_at h
  obtain ⟨e3, e4⟩ := rf_at hp
  have e5 : (Int.ofNat (ii - 1)).toNat = ii - 1 := rfl
  rw [e5, e1, e2, e3, e4]
  unfold ltR at hlt
  refine ⟨by simp [Nat.blt_eq]; omega, by simp [Nat.blt_eq]; omega, by simp; omega, fun e => ?_⟩
  have e := beq_iff_eq.1 e
  simp; omega
end Go.Proofs.YtljeiencnpnbkaaDoor
