/-
  Words of the document: the loop: definitions.
-/
import Derived.Test.YtlpcdjhojfopjaaGreatDoorZRi
set_option linter.unusedSimpArgs false
set_option linter.unusedVariables false
namespace Go.Proofs.YtlpcdjhojfopjaaGreatDoor
open Go.Ev

noncomputable def rwoU (n l : Nat) (g : Nat → Nat → AV) (st : Int) (L : LS) : St := ⟨[.ptr 1 0 0, .top, .top, .nils, .int .i64 0] ++ List.replicate 59 .top, ⟨[(1, .cells 9 (.ss 4 2 0 n none :: lsL st L)), (2, .arr 4 wSh false l g)], 3, gnm 0, [], [], [], false⟩⟩
noncomputable def rwoT (n l : Nat) (g : Nat → Nat → AV) (st : Int) (L : LS) (i : Nat) : St := ⟨[.ptr 1 0 0, .top, .top, .ss 4 3 0 (rwl (dOf n g) i).length none, .sym .i64 (Int.ofNat i)] ++ List.replicate 59 .top, ⟨[(1, .cells 9 (.ss 4 2 0 n none :: lsL st L)), (2, .arr 4 wSh false l g), (3, .arr 4 wSh false (rwl (dOf n g) i).length (wdF (wdAt (rwl (dOf n g) i))))], 4, gnm 0, [], [], [], false⟩⟩
noncomputable def rwoX (n l : Nat) (g : Nat → Nat → AV) (st : Int) (L : LS) (i : Nat) : St := ⟨[.ptr 1 0 0, .top, .top, .ss 4 3 0 (rwl (dOf n g) i).length none] ++ List.replicate 60 .top, ⟨[(1, .cells 9 (.ss 4 2 0 n none :: lsL st L)), (2, .arr 4 wSh false l g), (3, .arr 4 wSh false (rwl (dOf n g) i).length (wdF (wdAt (rwl (dOf n g) i))))], 4, gnm 0, [], [], [], false⟩⟩
noncomputable abbrev rwoL : Code := loopAt Tryz.prog 71 0
noncomputable def rwoLP (n l : Nat) (g : Nat → Nat → AV) (st : Int) (L : LS) : Prop := LoopHolds Tryz.prog rwoL (rwoU n l g st L) (.exit 0) (rwoX n l g st L n)
theorem rowsOf_wj (k a f v : Int) (j : Nat) : rowsOf 4 [.sym .u8 k, .sym .i64 a, .sym .i64 f, .sym .u64 v] 0 j = wdR ⟨k, a, f, v⟩ j := by rw [rowsOf_w]
theorem rwl_succ0 {D : DM} {i : Nat} (h : (D.W i).v = 0) : rwl D (i + 1) = rwl D i := by simp only [rwl, h, if_true]
theorem rwl_succ {D : DM} {i : Nat} (h : (D.W i).v ≠ 0) : rwl D (i + 1) = insL (D.W i).kv (rwl D i) := by simp only [rwl, h, if_false]
theorem wdAt_ins (x : Wd) (L : List (K3 × Int)) (i : Nat) (hi : i < L.length + 1) : wdAt (insL x.kv L) i = if i < posL x.key L then wdAt L i else if i = posL x.key L then x else wdAt L (i - 1) := by
  unfold wdAt
  have h := insL_get x.kv L i
  have e : x.kv.1 = x.key := rfl
  rw [e] at h
  rw [h]
  by_cases h1 : i < posL x.key L
  · simp only [h1, if_true]
  · by_cases h2 : i = posL x.key L
    · simp only [h1, if_false, h2, if_true, Nat.lt_irrefl]; rfl
    · simp only [h1, if_false, h2]
theorem rw_rows {n : Nat} {g : Nat → Nat → AV} {ii p : Nat} (hv : ((dOf n g).W ii).v ≠ 0) (hp : p = posL (wdOf (g ii)).key (rwl (dOf n g) ii)) {f : Nat → Nat → AV}
    (h1 : ∀ i, i < p → wdOf (f i) = wdAt (rwl (dOf n g) ii) i) (h2 : wdOf (f p) = wdOf (g ii)) (h3 : ∀ i, p < i → i < (rwl (dOf n g) (ii + 1)).length → wdOf (f i) = wdAt (rwl (dOf n g) ii) (i - 1)) :
    ∀ i, i < (rwl (dOf n g) (ii + 1)).length → rowOb wSh 0 (f i) (wdF (wdAt (rwl (dOf n g) (ii + 1))) i) := by
  intro i hi
  have hi0 := hi
  refine row_wd (w := wdAt (rwl (dOf n g) (ii + 1)) i) ?_
  rw [rwl_succ hv] at hi ⊢
  rw [insL_len] at hi
  rw [show ((dOf n g).W ii).kv = (wdOf (g ii)).kv from rfl, wdAt_ins _ _ _ hi, ← hp]
  by_cases a1 : i < p
  · rw [if_pos a1]; exact h1 i a1
  · by_cases a2 : i = p
    · rw [if_neg a1, if_pos a2, a2]; exact h2
    · rw [if_neg a1, if_neg a2]; exact h3 i (by omega) hi0

end Go.Proofs.YtlpcdjhojfopjaaGreatDoor
