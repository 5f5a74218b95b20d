/-
  Families of operations: plain facts.
-/
import Derived.Test.YtephpkfajobhmaaWErBDef
import Derived.Test.YtephpkfajobhmaaWSww
import Derived.Test.YtephpkfajobhmaaEvFam
set_option linter.unusedSimpArgs false
set_option linter.unusedVariables false
namespace Go.Proofs.Ytephpkfajobhmaa
open Go.Ev
def U64 (S : MS) : Prop := ∀ k, 0 ≤ mget S.M k ∧ mget S.M k < 18446744073709551616
theorem w64_r (e : Int) : 0 ≤ IntKind.u64.wrap e ∧ IntKind.u64.wrap e < 18446744073709551616 := by
  show 0 ≤ e % 18446744073709551616 ∧ e % 18446744073709551616 < 18446744073709551616
  omega
theorem mset_r {M : List Int → Option Int} {k : List Int} {v : Int} (h : ∀ k, 0 ≤ mget M k ∧ mget M k < 18446744073709551616) (hv : 0 ≤ v ∧ v < 18446744073709551616) : ∀ q, 0 ≤ mget (setKey M k (some v)) q ∧ mget (setKey M k (some v)) q < 18446744073709551616 := by
  intro q
  unfold mget setKey
  by_cases e : q = k
  · simp only [e, if_true]; exact hv
  · simp only [e, if_false]; exact h q
theorem U64.store {S : MS} (h : U64 S) (k a f v : Int) (hv : 0 ≤ v ∧ v < 18446744073709551616) : U64 (mStore S k a f v) := by
  unfold U64 mStore memPut
  cases mayA k a f with
  | true => exact mset_r h hv
  | false => exact h
theorem U64.cas {S : MS} (h : U64 S) (k a f w v : Int) (hv : 0 ≤ v ∧ v < 18446744073709551616) : U64 (mCas S k a f w v) := by
  unfold U64 mCas casM
  cases casD S.M k a f w with
  | true => exact mset_r h hv
  | false => exact h
theorem U64.load {S : MS} (h : U64 S) (k a f : Int) : U64 (mLoad S k a f) := h
theorem U64.nil : U64 ms0 := fun k => ⟨Int.le_refl _, by show (0 : Int) < _; decide⟩
structure Fin2 (S : MS) (R : RS) (n : Nat) : Prop where
  fine : Fine S R n
  u : U64 S
theorem Fin2.load {S : MS} {R : RS} {n : Nat} (h : Fin2 S R n) (k a f : Int) : Fin2 (mLoad S k a f) (rLoad R k a f) (n + 1) := ⟨(h.fine.load k a f).mono (by omega), h.u⟩
theorem Fin2.store {S : MS} {R : RS} {n : Nat} (h : Fin2 S R n) (k a f v : Int) (hv : 0 ≤ v ∧ v < 18446744073709551616) : Fin2 (mStore S k a f v) (rStore R k a f v) (n + 1) := ⟨h.fine.store k a f v, h.u.store k a f v hv⟩
theorem Fin2.cas {S : MS} {R : RS} {n : Nat} (h : Fin2 S R n) (k a f w v : Int) (hv : 0 ≤ v ∧ v < 18446744073709551616) : Fin2 (mCas S k a f w v) (rCas R k a f w v) (n + 1) := ⟨h.fine.cas k a f w v, h.u.cas k a f w v hv⟩
theorem Fin2.one {S : MS} {R : RS} {n : Nat} (h : Fin2 S R n) : Fin2 S R (n + 1) := ⟨h.fine.mono (by omega), h.u⟩
theorem msN_u {W : Nat → Wd} : ∀ n, (∀ i, i < n → 0 ≤ (W i).v ∧ (W i).v < 18446744073709551616) → U64 (msN W n)
  | 0, _ => U64.nil
  | n + 1, h => U64.store (msN_u n (fun i hi => h i (by omega))) _ _ _ _ (by rw [Nat.zero_add]; exact h n (by omega))
/-- Which operation takes a step. -/
def jX (r : Nat → AV) (n : Nat) : Nat := ((IntKind.u64.wrap (avInt (r 1))).tmod (IntKind.u64.wrap (Int.ofNat n))).toNat
theorem jX_lt (r : Nat → AV) {n : Nat} (h0 : n ≠ 0) (h1 : n ≤ 1000) : jX r n < n ∧ 0 ≤ (IntKind.u64.wrap (avInt (r 1))).tmod (IntKind.u64.wrap (Int.ofNat n)) := by
  have hn : IntKind.u64.wrap (Int.ofNat n) = (n : Int) := u64w (by simp) (by simp; omega)
  have hw := (w64_r (avInt (r 1))).1
  unfold jX
  rw [hn, Int.tmod_eq_emod_of_nonneg hw]
  have a := Int.emod_nonneg (IntKind.u64.wrap (avInt (r 1))) (b := (n : Int)) (by omega)
  have b := Int.emod_lt_of_pos (IntKind.u64.wrap (avInt (r 1))) (b := (n : Int)) (by omega)
  omega
def ltAll : List (Nat × AO) → Bool
  | [] => true
  | (n, _) :: r => match Nat.blt n 900 with
    | true => ltAll r
    | false => false
theorem ltAll_get : ∀ (l : List (Nat × AO)), ltAll l = true → ∀ n o, get l n = some o → n < 900
  | [], _, n, o, h => by simp [Go.Ev.get] at h
  | (k, p) :: r, hl, n, o, h => by
    simp only [ltAll] at hl
    split at hl
    · rename_i hk
      rcases get_cons h with ⟨rfl, rfl⟩ | ⟨_, h⟩
      · simpa [Nat.blt_eq] using hk
      · exact ltAll_get r hl n o h
    · cases hl
theorem eqF {a b : Int} (h : ¬ a = b) : (a == b) = false := by simpa using h
theorem eqT {a b : Int} (h : a = b) : (a == b) = true := by simpa using h
theorem z0 : (0 : Int) ≤ 0 ∧ (0 : Int) < 18446744073709551616 := by decide
theorem allVal {sh : List CK} (h : ∀ k ∈ sh, k = .val) : ∀ (j : Nat) k, sh[j]? = some k → k = .val := fun j k e => h k (List.mem_of_getElem? e)
end Go.Proofs.Ytephpkfajobhmaa
