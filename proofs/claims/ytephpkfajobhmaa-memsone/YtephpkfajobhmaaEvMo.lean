/-
  MemsOne in plain words.
-/
import Derived.Test.YtephpkfajobhmaaEvOpen
set_option linter.unusedSimpArgs false
set_option linter.unusedVariables false
namespace Go.Ev
theorem may_le {k a f : Int} (h : mayA k a f = true) : k ≤ 11 ∧ 0 ≤ a ∧ a < kAt k ∧ 0 ≤ f ∧ f < kFl k := by
  unfold mayA at h; exact of_decide_eq_true h
theorem kAt_pos (k : Int) : 0 < kAt k := by unfold kAt; repeat (split; · omega); omega
theorem kFl_pos (k : Int) : 0 < kFl k := by unfold kFl; repeat (split; · omega); omega
theorem tmod_in {x n : Int} (h : 0 ≤ x) (hn : 0 < n) : 0 ≤ x.tmod n ∧ x.tmod n < n := by
  rw [Int.tmod_eq_emod_of_nonneg h]
  exact ⟨Int.emod_nonneg _ (by omega), Int.emod_lt_of_pos _ hn⟩
theorem addr_may {x y z : Int} (hx : 0 ≤ x ∧ x < 256) (hy : 0 ≤ y ∧ y < 256) (hz : 0 ≤ z ∧ z < 256) : mayA (x.tmod 12) (y.tmod (kAt (x.tmod 12))) (z.tmod (kFl (x.tmod 12))) = true := by
  have h1 := tmod_in hx.1 (n := 12) (by decide)
  have h2 := tmod_in hy.1 (kAt_pos (x.tmod 12))
  have h3 := tmod_in hz.1 (kFl_pos (x.tmod 12))
  unfold mayA
  exact decide_eq_true ⟨by omega, h2.1, h2.2, h3.1, h3.2⟩
theorem casD_may {M : List Int → Option Int} {k a f w : Int} (h : mayA k a f = true) : casD M k a f w = (mget M (key k a f) == w) := by
  unfold casD
  cases (mget M (key k a f) == w) <;> simp [h]
theorem mo_plain {k a f k' a' f' v0 v1 v2 : Int} (ha : mayA k a f = true) (hb : mayA k' a' f' = true) (hne : ¬ (k = k' ∧ a = a' ∧ f = f')) (hv : 0 ≤ v0 ∧ v0 < 18446744073709551616) :
    casD (memPut (memPut (fun _ => none) k a f v0) k' a' f' v1) k' a' f' v1 = true ∧
    casD (casM (memPut (memPut (fun _ => none) k a f v0) k' a' f' v1) k' a' f' v1 v2) k a f (IntKind.u64.wrap (v0 + 1)) = false ∧
    mget (casM (casM (memPut (memPut (fun _ => none) k a f v0) k' a' f' v1) k' a' f' v1 v2) k a f (IntKind.u64.wrap (v0 + 1)) v2) (key k a f) = v0 ∧
    mget (casM (casM (memPut (memPut (fun _ => none) k a f v0) k' a' f' v1) k' a' f' v1 v2) k a f (IntKind.u64.wrap (v0 + 1)) v2) (key k' a' f') = v2 ∧
    (∀ x y z, mget (memPut (casM (casM (memPut (memPut (fun _ => none) k a f v0) k' a' f' v1) k' a' f' v1 v2) k a f (IntKind.u64.wrap (v0 + 1)) v2) k' a' f' 0) (key x y z) = if x = k ∧ y = a ∧ z = f then v0 else 0) ∧
    FinM (memPut (casM (casM (memPut (memPut (fun _ => none) k a f v0) k' a' f' v1) k' a' f' v1 v2) k a f (IntKind.u64.wrap (v0 + 1)) v2) k' a' f' 0) 1000000 := by
  have hw : IntKind.u64.wrap (v0 + 1) ≠ v0 := by
    show (v0 + 1) % 18446744073709551616 ≠ v0
    omega
  have d1 : casD (memPut (memPut (fun _ => none) k a f v0) k' a' f' v1) k' a' f' v1 = true := by
    rw [casD_may hb, mget_put, if_pos ⟨hb, rfl, rfl, rfl⟩]; simp
  have g1 : ∀ x y z, mget (casM (memPut (memPut (fun _ => none) k a f v0) k' a' f' v1) k' a' f' v1 v2) (key x y z) = if x = k' ∧ y = a' ∧ z = f' then v2 else if x = k ∧ y = a ∧ z = f then v0 else 0 := fun x y z => by
    rw [casM_put, if_pos d1, mget_put, mget_put, mget_put]
    simp only [ha, hb, true_and, mget_none]
    split <;> rfl
  have d2 : casD (casM (memPut (memPut (fun _ => none) k a f v0) k' a' f' v1) k' a' f' v1 v2) k a f (IntKind.u64.wrap (v0 + 1)) = false := by
    rw [casD_may ha, g1, if_neg hne, if_pos ⟨rfl, rfl, rfl⟩]
    simp; exact fun e => hw e.symm
  have g2 : casM (casM (memPut (memPut (fun _ => none) k a f v0) k' a' f' v1) k' a' f' v1 v2) k a f (IntKind.u64.wrap (v0 + 1)) v2 = casM (memPut (memPut (fun _ => none) k a f v0) k' a' f' v1) k' a' f' v1 v2 := by
    rw [casM_put, if_neg (by rw [d2]; decide)]
  refine ⟨d1, d2, ?_, ?_, fun x y z => ?_, ?_⟩
  · rw [g2, g1, if_neg hne, if_pos ⟨rfl, rfl, rfl⟩]
  · rw [g2, g1, if_pos ⟨rfl, rfl, rfl⟩]
  · rw [mget_put, g2, g1]
    simp only [hb, true_and]
    by_cases h1 : x = k' ∧ y = a' ∧ z = f'
    · rw [if_pos h1, if_neg (fun h2 => hne ⟨h2.1.symm.trans h1.1, h2.2.1.symm.trans h1.2.1, h2.2.2.symm.trans h1.2.2⟩)]
    · rw [if_neg h1, if_neg h1]
  · exact (((((FinM.nil 0).put _ _ _ _).put _ _ _ _).cas _ _ _ _ _).cas _ _ _ _ _ |>.put _ _ _ _).mono (by decide)
end Go.Ev
