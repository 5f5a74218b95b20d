/-
  BarriersAll: the memory that is laid.
-/
import Derived.Test.YtmlfmmnnbdlabaaDoorQFs2
import Derived.Test.YtmlfmmnnbdlabaaDoorQYi
set_option linter.unusedSimpArgs false
set_option linter.unusedVariables false
namespace Go.Proofs.YtmlfmmnnbdlabaaDoor
open Go.Ev
theorem wd10_at (f : Nat → Int) (j : Nat) (h : j < 10) : wd10 (f 0) (f 1) (f 2) (f 3) (f 4) (f 5) (f 6) (f 7) (f 8) (f 9) (Int.ofNat j) = f j := by
  rcases (show j = 0 ∨ j = 1 ∨ j = 2 ∨ j = 3 ∨ j = 4 ∨ j = 5 ∨ j = 6 ∨ j = 7 ∨ j = 8 ∨ j = 9 by omega) with rfl | rfl | rfl | rfl | rfl | rfl | rfl | rfl | rfl | rfl <;> rfl
theorem gW_at (g : Nat → Nat → AV) (i j : Nat) (h : j < 10) : gW g i (Int.ofNat j) = avInt (g i j) := by
  have := wd10_at (fun q => avInt (g (0 + i) q)) j h
  rw [Nat.zero_add] at this
  unfold gW
  rw [Nat.zero_add]
  exact this
theorem may8 (a f : Nat) (ha : a < 16) (hf : f < 10) : mayA 8 (Int.ofNat a) (Int.ofNat f) = true := by
  unfold mayA
  refine decide_eq_true ⟨by decide, by simp, ?_, by simp, ?_⟩
  · show (a : Int) < 16
    omega
  · show (f : Int) < 10
    omega
theorem layK_get (g : Nat → Nat → AV) (i : Nat) (hi : i < 16) (x : MS) (a f : Nat) : ∀ j, j ≤ 10 → mget (layK g i x j).M (key 8 (Int.ofNat a) (Int.ofNat f)) = if a = i ∧ f < j then avInt (g i f) else mget x.M (key 8 (Int.ofNat a) (Int.ofNat f))
  | 0, _ => by rw [if_neg (by omega)]; rfl
  | j + 1, h => by
    have e : (layK g i x (j + 1)).M = memPut (layK g i x j).M 8 (Int.ofNat i) (Int.ofNat j) (gW g i (Int.ofNat j)) := rfl
    rw [e, mget_put, layK_get g i hi x a f j (by omega)]
    have m := may8 i j hi (by omega)
    by_cases c : a = i ∧ f = j
    · obtain ⟨rfl, rfl⟩ := c
      rw [if_pos ⟨m, rfl, rfl, rfl⟩, if_pos ⟨rfl, by omega⟩, gW_at g a f (by omega)]
    · rw [if_neg (fun q => c ⟨Int.ofNat.inj q.2.2.1, Int.ofNat.inj q.2.2.2⟩)]
      by_cases d : a = i ∧ f < j
      · rw [if_pos d, if_pos ⟨d.1, by omega⟩]
      · rw [if_neg d, if_neg (fun q => by
          obtain ⟨q1, q2⟩ := q
          exact d ⟨q1, by
            have : f ≠ j := fun e => c ⟨q1, e⟩
            omega⟩)]
theorem layK_blk (g : Nat → Nat → AV) (i : Nat) (x : MS) : ∀ j, mget (layK g i x j).M (key 5 0 0) = mget x.M (key 5 0 0)
  | 0 => rfl
  | j + 1 => by
    have e : (layK g i x (j + 1)).M = memPut (layK g i x j).M 8 (Int.ofNat i) (Int.ofNat j) (gW g i (Int.ofNat j)) := rfl
    rw [e, mget_put, if_neg (fun q => by exact absurd q.2.1 (by decide)), layK_blk g i x j]
theorem layN_get (g : Nat → Nat → AV) (x : MS) (a f : Nat) (hf : f < 10) : ∀ i, i ≤ 16 → mget (layN g x i).M (key 8 (Int.ofNat a) (Int.ofNat f)) = if a < i then avInt (g a f) else mget x.M (key 8 (Int.ofNat a) (Int.ofNat f))
  | 0, _ => by rw [if_neg (by omega)]; rfl
  | i + 1, h => by
    show mget (layK g i (layN g x i) 10).M _ = _
    rw [layK_get g i (by omega) _ a f 10 (by omega), layN_get g x a f hf i (by omega)]
    by_cases c : a = i
    · subst c
      rw [if_pos ⟨rfl, hf⟩, if_pos (by omega)]
    · rw [if_neg (fun q => c q.1)]
      by_cases d : a < i
      · rw [if_pos d, if_pos (by omega)]
      · rw [if_neg d, if_neg (by omega)]
theorem layN_blk (g : Nat → Nat → AV) (x : MS) : ∀ i, mget (layN g x i).M (key 5 0 0) = mget x.M (key 5 0 0)
  | 0 => rfl
  | i + 1 => by
    show mget (layK g i (layN g x i) 10).M _ = _
    rw [layK_blk, layN_blk g x i]
theorem wlF_len {f : List Int → Option Int} {n : Nat} (h : FinM f n) : (wlF f).length ≤ n := by
  obtain ⟨b, hb, hm⟩ := h
  by_cases hex : ∃ l, IsWl f l
  · obtain ⟨l, hl⟩ := hex
    rw [wlF_eq hl]
    have := nodup_len (l.map (fun x => key x.1.1 x.1.2.1 x.1.2.2)) b (List.pairwise_map.2 (hl.sorted.imp (fun {x y} h e => by
      have e1 : x.1.1 = y.1.1 ∧ x.1.2.1 = y.1.2.1 ∧ x.1.2.2 = y.1.2.2 := by simpa [key] using e
      unfold ltK at h; omega))) (fun k hk => by
      obtain ⟨⟨k3, v⟩, hx, rfl⟩ := List.mem_map.1 hk
      obtain ⟨q1, q2⟩ := (hl.mem k3 v).1 hx
      cases hf : f (key k3.1 k3.2.1 k3.2.2) with
      | none => unfold mget at q1; rw [hf] at q1; exact absurd q1.symm q2
      | some u => exact hm _ u hf)
    rw [List.length_map] at this
    omega
  · unfold wlF; rw [dif_neg hex]; exact Nat.zero_le _
theorem layK_fin {g : Nat → Nat → AV} {i : Nat} {x : MS} {k : Nat} (h : FinM x.M k) : ∀ j, FinM (layK g i x j).M (k + j)
  | 0 => h
  | j + 1 => (layK_fin h j).put _ _ _ _
theorem layN_fin {g : Nat → Nat → AV} {x : MS} {k : Nat} (h : FinM x.M k) : ∀ i, FinM (layN g x i).M (k + 10 * i)
  | 0 => h
  | i + 1 => (layK_fin (layN_fin h i) 10).mono (by omega)
theorem layK_st {g : Nat → Nat → AV} {i : Nat} {x : MS} (h : 0 ≤ x.st ∧ x.st < 1000000) : ∀ j, j ≤ 10 → (layK g i x j).st = x.st + Int.ofNat j
  | 0, _ => by show x.st = x.st + 0; omega
  | j + 1, hj => by
    show IntKind.i64.wrap ((layK g i x j).st + 1) = _
    rw [layK_st h j (by omega), i64w (by simp; omega) (by simp; omega)]; simp; omega
theorem layN_st {g : Nat → Nat → AV} {x : MS} (h : 0 ≤ x.st ∧ x.st < 1000) : ∀ i, i ≤ 100 → (layN g x i).st = x.st + 10 * Int.ofNat i
  | 0, _ => by show x.st = x.st + 10 * 0; omega
  | i + 1, hi => by
    have e := layN_st (g := g) h i (by omega)
    show (layK g i (layN g x i) 10).st = _
    rw [layK_st (by rw [e]; simp; omega) 10 (by omega), e]; simp; omega
noncomputable def bxX (n : Nat) (g : Nat → Nat → AV) (b : Int) : MS := layN g (mStore ms0 5 0 0 (IntKind.u64.wrap (IntKind.i64.wrap b))) n
section
variable (n : Nat) (g : Nat → Nat → AV) (b : Int)
theorem bx_word (hn : n ≤ 16) (a f : Nat) (h : f < 10) : mget (bxX n g b).M (key 8 (Int.ofNat a) (Int.ofNat f)) = if a < n then avInt (g a f) else 0 := by
  unfold bxX
  rw [layN_get g _ a f h n hn]
  by_cases c : a < n
  · rw [if_pos c, if_pos c]
  · rw [if_neg c, if_neg c]
    show mget (memPut _ 5 0 0 _) _ = 0
    rw [mget_put, if_neg (fun q => by exact absurd q.2.1 (by decide))]
    rfl
theorem bx_blk (hb : 0 ≤ b ∧ b < 256) : mget (bxX n g b).M (key 5 0 0) = b := by
  unfold bxX
  rw [layN_blk]
  show mget (memPut _ 5 0 0 _) _ = _
  rw [mget_put, if_pos ⟨rfl, rfl, rfl, rfl⟩, i64w (by omega) (by omega), u64w (by omega) (by omega)]
theorem bx_fin : FinM (bxX n g b).M (1 + 10 * n) := layN_fin (((FinM.nil 0).put 5 0 0 _ : FinM (mStore ms0 5 0 0 (IntKind.u64.wrap (IntKind.i64.wrap b))).M 1)) n
theorem bx_st (hn : n ≤ 16) : (bxX n g b).st = 1 + 10 * Int.ofNat n := by
  unfold bxX
  exact layN_st (x := mStore ms0 5 0 0 (IntKind.u64.wrap (IntKind.i64.wrap b))) ⟨(by decide : (0 : Int) ≤ 1), (by decide : (1 : Int) < 1000)⟩ n (by omega)
/-- Which threads a Barrier waits for. -/
theorem bx_wait (hn : n ≤ 16) (nb : Int) (t : Nat) : blk (bxX n g b).M nb (Int.ofNat t) ↔ t < n ∧ blkB g nb t = true := by
  have w := fun f h => bx_word n g b hn t f h
  unfold blk blkB
  rw [show key 8 (Int.ofNat t) 0 = key 8 (Int.ofNat t) (Int.ofNat 0) from rfl, show key 8 (Int.ofNat t) 1 = key 8 (Int.ofNat t) (Int.ofNat 1) from rfl, show key 8 (Int.ofNat t) 2 = key 8 (Int.ofNat t) (Int.ofNat 2) from rfl, show key 8 (Int.ofNat t) 6 = key 8 (Int.ofNat t) (Int.ofNat 6) from rfl, w 0 (by decide), w 1 (by decide), w 2 (by decide), w 6 (by decide), Nat.zero_add]
  by_cases c : t < n
  · simp only [c, true_and, if_true]
    constructor
    · rintro ⟨h0, h1, h2, h6⟩
      rw [bne_iff_ne.2 h0, bne_iff_ne.2 h1, beq_iff_eq.2 h6, h2]; rfl
    · intro h
      cases b0 : (avInt (g t 0) != 0) with
      | false => rw [b0] at h; cases h
      | true =>
        rw [b0] at h
        cases b1 : (avInt (g t 1) != 0) with
        | false => rw [b1] at h; cases h
        | true =>
          rw [b1] at h
          cases b2 : (avInt (g t 6) == 0) with
          | false => rw [b2] at h; cases h
          | true =>
            rw [b2] at h
            cases b3 : bpReach nb (avInt (g t 2)) with
            | true => rw [b3] at h; cases h
            | false => exact ⟨bne_iff_ne.1 b0, bne_iff_ne.1 b1, rfl, beq_iff_eq.1 b2⟩
  · rw [if_neg c]
    exact ⟨fun h => absurd rfl h.1, fun h => absurd h.1 c⟩
end
end Go.Proofs.YtmlfmmnnbdlabaaDoor
