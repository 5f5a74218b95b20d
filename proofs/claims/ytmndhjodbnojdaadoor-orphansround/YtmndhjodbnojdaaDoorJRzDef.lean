/-
  OrphansRound: definitions.
-/
import Derived.Test.YtmndhjodbnojdaaDoorJRm
import Derived.Test.YtmndhjodbnojdaaDoorEvDropK
set_option linter.unusedSimpArgs false
set_option linter.unusedVariables false
namespace Go.Proofs.YtmndhjodbnojdaaDoor
open Go.Ev
noncomputable def EOy : Env := envG Tryd.prog ([(31, tabSP 0 tab sNone), (44, locSP pstSpec), (37, locSP teSpec), (96, locSP rksSpec), (48, locSP smeSpec), (43, locSP sameSpec), (97, locSP spoSpec)] ++ memSP)
theorem EOy_ok : EnvOk EOy := envG_ok mgood ⟨tabSP_ok rfl (sNone_ok l12_pure), locSP_ok pstSpec_ok, locSP_ok teSpec_ok, locSP_ok rksSpec_ok, locSP_ok smeSpec_ok, locSP_ok sameSpec_ok, locSP_ok spoSpec_ok, memSP_ok⟩
noncomputable def rdRun (m : Nat) (f : Nat → Nat → AV) (hh : List Hint) : Option (AV × List Prop × Bool) := (callF EOy 6000 8 [.ss 1 1 0 m none] ⟨(tabsH [(0, tab)] ++ [(1, .arr 1 [.int .u8] true m f)]), 2, gnm 0, hh, [], [], false⟩).map (fun x => (x.1, x.2.ob, noneIn (tabsH [(0, tab)] ++ [(1, .arr 1 [.int .u8] true m f)]) x.2.wr))
def orQ (m : Nat) (f : Nat → Nat → AV) (s : Int) : Prop := ∃ i, i < m ∧ s = avInt (f i 0)
section
variable {m : Nat} {f : Nat → Nat → AV} (hr : ∀ i, i < m → 0 ≤ avInt (f i 0) ∧ avInt (f i 0) < 256) (hm0 : 0 < m) (hm : m ≤ 20)
include hr hm0 hm
theorem or_val {i : Nat} (hi : i < m) : orA f i = avInt (f i 0) ∧ ∃ s', orQ m f s' ∧ orV m f i = s' + 1 := by
  have h := hr i hi
  refine ⟨by unfold orA; rw [Nat.zero_add, i64w (by omega) (by omega)], avInt (f ((i + 1) % m) 0), ⟨(i + 1) % m, Nat.mod_lt _ hm0, rfl⟩, ?_⟩
  have h2 := hr ((i + 1) % m) (Nat.mod_lt _ hm0)
  have ex0 : IntKind.i64.wrap (Int.ofNat i + 1) = ((i + 1 : Nat) : Int) := by rw [i64w (by simp; omega) (by simp; omega)]; simp
  have ex1 : (IntKind.i64.wrap (Int.ofNat i + 1)).tmod (Int.ofNat m) = (((i + 1) % m : Nat) : Int) := by rw [ex0]; rfl
  unfold orV
  rw [ex1, Int.toNat_natCast, Nat.zero_add, u64w (x := avInt _) (by omega) (by omega), u64w (by omega) (by omega)]
theorem or_lk : ∀ k, k ≤ m → U64 (orS m f k) ∧ ∀ i, i < k → ∃ s', orQ m f s' ∧ mget (orS m f k).M (key 9 (avInt (f i 0)) 2) = s' + 1
  | 0, _ => ⟨U64.nil, fun i hi => absurd hi (Nat.not_lt_zero i)⟩
  | k + 1, hk => by
    obtain ⟨u, ih⟩ := or_lk k (by omega)
    obtain ⟨ea, s', hs', ev⟩ := or_val hr hm0 hm (i := k) (by omega)
    have hrk := hr k (by omega)
    have hs'r : 0 ≤ s' ∧ s' < 256 := by obtain ⟨q, hq, rfl⟩ := hs'; exact hr q hq
    refine ⟨U64.store u _ _ _ _ (by rw [ev]; omega), fun i hi => ?_⟩
    have key : mget (orS m f (k + 1)).M (key 9 (avInt (f i 0)) 2) = if avInt (f i 0) = avInt (f k 0) then s' + 1 else mget (orS m f k).M (key 9 (avInt (f i 0)) 2) := by
      show mget (memPut (orS m f k).M 9 (orA f k) 2 (orV m f k)) _ = _
      rw [ea, ev, mget_put]
      have hmy : mayA 9 (avInt (f k 0)) 2 = true := mayO hrk.1 hrk.2 (by decide) (by decide)
      by_cases c : avInt (f i 0) = avInt (f k 0)
      · rw [if_pos ⟨hmy, rfl, c, rfl⟩, if_pos c]
      · rw [if_neg (fun e => c e.2.2.1), if_neg c]
    rw [key]
    by_cases c : avInt (f i 0) = avInt (f k 0)
    · rw [if_pos c]; exact ⟨s', hs', rfl⟩
    · rw [if_neg c]
      exact ih i (by
        rcases Nat.lt_or_ge i k with h | h
        · exact h
        · exact absurd (by have : i = k := by omega
                           rw [this]) c)
theorem or_rg : Rg (orS0 m f) (orQ m f) ∧ Both (orS0 m f) (orR0 m f) ∧ (orR0 m f).D.n ≤ 1000 := by
  obtain ⟨u, hl⟩ := or_lk hr hm0 hm m (Nat.le_refl _)
  have h0 := hr 0 hm0
  have ev : IntKind.u64.wrap (IntKind.u64.wrap (avInt (f (0 + (0 : Int).toNat) 0)) + 1) = avInt (f 0 0) + 1 := by
    show IntKind.u64.wrap (IntKind.u64.wrap (avInt (f 0 0)) + 1) = _
    rw [u64w (x := avInt _) (by omega) (by omega), u64w (by omega) (by omega)]
  refine ⟨⟨?_, ⟨avInt (f 0 0), ⟨0, hm0, rfl⟩, ?_⟩, fun s hs => ?_, fun s hs => ?_⟩, (or_both m f m).store _ _ _ _, ?_⟩
  · exact U64.store u _ _ _ _ (by rw [ev]; omega)
  · show mget (memPut (orS m f m).M 4 0 0 _) _ = _
    rw [ev, mget_put, if_pos ⟨may4, rfl, rfl, rfl⟩]
  · obtain ⟨i, hi, rfl⟩ := hs
    obtain ⟨s', h1, h2⟩ := hl i hi
    refine ⟨s', h1, ?_⟩
    show mget (memPut (orS m f m).M 4 0 0 _) _ = _
    rw [mget_put, if_neg (fun e => absurd e.2.1 (by decide))]; exact h2
  · obtain ⟨i, hi, rfl⟩ := hs; exact hr i hi
  · have h1 := or_n m f m
    have h2 := (dPut_n (orR m f m).D 4 0 0 (IntKind.u64.wrap (IntKind.u64.wrap (avInt (f (0 + (0 : Int).toNat) 0)) + 1))).1
    show (dPut _ _ _ _ _).n ≤ _
    omega
end
end Go.Proofs.YtmndhjodbnojdaaDoor
