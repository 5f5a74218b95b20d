/-
  SnapsMoved: what the Taker sees.
-/
import Derived.Test.YtmlfmmnnbdlabaaNSv
import Derived.Test.YtmlfmmnnbdlabaaNSe
import Derived.Test.YtmlfmmnnbdlabaaNSo
set_option linter.unusedSimpArgs false
set_option linter.unusedVariables false
namespace Go.Proofs.Ytmlfmmnnbdlabaa
open Go.Ev
theorem wd10_at (f : Nat → Int) (j : Nat) (h : j < 10) : wd10 (f 0) (f 1) (f 2) (f 3) (f 4) (f 5) (f 6) (f 7) (f 8) (f 9) (Int.ofNat j) = f j := by
  rcases (show j = 0 ∨ j = 1 ∨ j = 2 ∨ j = 3 ∨ j = 4 ∨ j = 5 ∨ j = 6 ∨ j = 7 ∨ j = 8 ∨ j = 9 by omega) with rfl | rfl | rfl | rfl | rfl | rfl | rfl | rfl | rfl | rfl <;> rfl
theorem gW_at (g : Nat → Nat → AV) (i j : Nat) (h : j < 10) : gW g i (Int.ofNat j) = avInt (g i j) := by
  have := wd10_at (fun q => avInt (g (0 + i) q)) j h
  rw [Nat.zero_add] at this
  unfold gW
  rw [Nat.zero_add]
  exact this
theorem may8 (a f : Nat) (ha : a < 16) (hf : f < 10) : mayA 8 (Int.ofNat a) (Int.ofNat f) = true := by
  unfold mayA
  refine decide_eq_true ⟨by decide, by simp, ?_, by simp, ?_⟩
  · show (a : Int) < 16
    omega
  · show (f : Int) < 10
    omega
theorem layK_get (g : Nat → Nat → AV) (i : Nat) (hi : i < 16) (x : MS) (a f : Nat) : ∀ j, j ≤ 10 → mget (layK g i x j).M (key 8 (Int.ofNat a) (Int.ofNat f)) = if a = i ∧ f < j then avInt (g i f) else mget x.M (key 8 (Int.ofNat a) (Int.ofNat f))
  | 0, _ => by rw [if_neg (by omega)]; rfl
  | j + 1, h => by
    have e : (layK g i x (j + 1)).M = memPut (layK g i x j).M 8 (Int.ofNat i) (Int.ofNat j) (gW g i (Int.ofNat j)) := rfl
    rw [e, mget_put, layK_get g i hi x a f j (by omega)]
    have m := may8 i j hi (by omega)
    by_cases c : a = i ∧ f = j
    · obtain ⟨rfl, rfl⟩ := c
      rw [if_pos ⟨m, rfl, rfl, rfl⟩, if_pos ⟨rfl, by omega⟩, gW_at g a f (by omega)]
    · rw [if_neg (fun q => c ⟨Int.ofNat.inj q.2.2.1, Int.ofNat.inj q.2.2.2⟩)]
      by_cases d : a = i ∧ f < j
      · rw [if_pos d, if_pos ⟨d.1, by omega⟩]
      · rw [if_neg d, if_neg (fun q => by
          obtain ⟨q1, q2⟩ := q
          exact d ⟨q1, by
            have : f ≠ j := fun e => c ⟨q1, e⟩
            omega⟩)]
theorem layK_blk (g : Nat → Nat → AV) (i : Nat) (x : MS) : ∀ j, mget (layK g i x j).M (key 5 0 0) = mget x.M (key 5 0 0)
  | 0 => rfl
  | j + 1 => by
    have e : (layK g i x (j + 1)).M = memPut (layK g i x j).M 8 (Int.ofNat i) (Int.ofNat j) (gW g i (Int.ofNat j)) := rfl
    rw [e, mget_put, if_neg (fun q => by exact absurd q.2.1 (by decide)), layK_blk g i x j]
theorem layN_get (g : Nat → Nat → AV) (x : MS) (a f : Nat) (hf : f < 10) : ∀ i, i ≤ 16 → mget (layN g x i).M (key 8 (Int.ofNat a) (Int.ofNat f)) = if a < i then avInt (g a f) else mget x.M (key 8 (Int.ofNat a) (Int.ofNat f))
  | 0, _ => by rw [if_neg (by omega)]; rfl
  | i + 1, h => by
    show mget (layK g i (layN g x i) 10).M _ = _
    rw [layK_get g i (by omega) _ a f 10 (by omega), layN_get g x a f hf i (by omega)]
    by_cases c : a = i
    · subst c
      rw [if_pos ⟨rfl, hf⟩, if_pos (by omega)]
    · rw [if_neg (fun q => c q.1)]
      by_cases d : a < i
      · rw [if_pos d, if_pos (by omega)]
      · rw [if_neg d, if_neg (by omega)]
theorem layN_blk (g : Nat → Nat → AV) (x : MS) : ∀ i, mget (layN g x i).M (key 5 0 0) = mget x.M (key 5 0 0)
  | 0 => rfl
  | i + 1 => by
    show mget (layK g i (layN g x i) 10).M _ = _
    rw [layK_blk, layN_blk g x i]
/-- Where a Taker stands that has looked at k words. -/
def svTa (n k : Nat) : Nat := if k < 10 * n then k / 10 else n + (k - 10 * n)
def svFl (n k : Nat) : Nat := if k < 10 * n then k % 10 else 0
theorem svp_lo {n k : Nat} (h : k < 10 * n) : svTa n k = k / 10 ∧ svFl n k = k % 10 := ⟨if_pos h, if_pos h⟩
theorem svp_hi {n k : Nat} (h : ¬ k < 10 * n) : svTa n k = n + (k - 10 * n) ∧ svFl n k = 0 := ⟨if_neg h, if_neg h⟩
theorem svp_lt (n k : Nat) : svTa n k < n ↔ k < 10 * n := by
  by_cases h : k < 10 * n
  · rw [(svp_lo h).1]; omega
  · rw [(svp_hi h).1]; omega
theorem svp_k {n k : Nat} (h : svTa n k < n) : k = 10 * svTa n k + svFl n k := by
  have := (svp_lt n k).1 h
  rw [(svp_lo this).1, (svp_lo this).2]; omega
def svV (g : Nat → Nat → AV) (w who fd wh : Int) (i j : Nat) : Int := if Int.ofNat i = who ∧ Int.ofNat j = fd ∧ wh ≤ 1 + 10 * who + fd then w else avInt (g i j)
def svF (g : Nat → Nat → AV) (w who fd wh : Int) (n k i j : Nat) : Int := if 10 * i + j < k ∧ i < n ∧ j < 10 then svV g w who fd wh i j else 0
structure SvOk (g : Nat → Nat → AV) (w who fd wh : Int) (n : Nat) (x : MS) (k : Nat) (s : SV) : Prop where
  ta : s.ta = Int.ofNat (svTa n k)
  fl : s.fl = Int.ofNat (svFl n k)
  F : ∀ i j, s.F i j = .sym .u64 (svF g w who fd wh n k i j)
  M : ∀ a f : Nat, f < 10 → mget s.m.M (key 8 (Int.ofNat a) (Int.ofNat f)) = if wh ≤ Int.ofNat k ∧ Int.ofNat a = who ∧ Int.ofNat f = fd then w else mget x.M (key 8 (Int.ofNat a) (Int.ofNat f))
section
variable {g : Nat → Nat → AV} {w who fd wh : Int} {n : Nat} {x : MS}
theorem svM_get (hw : 0 ≤ wh) (hwho : 0 ≤ who ∧ who < Int.ofNat n) (hn : n ≤ 16) (hf : 1 ≤ fd ∧ fd ≤ 9) (k : Nat) (y : MS)
    (h : ∀ a f : Nat, f < 10 → mget y.M (key 8 (Int.ofNat a) (Int.ofNat f)) = if wh < Int.ofNat k ∧ Int.ofNat a = who ∧ Int.ofNat f = fd then w else mget x.M (key 8 (Int.ofNat a) (Int.ofNat f))) (a f : Nat) (h10 : f < 10) :
    mget (svM who fd w wh k y).M (key 8 (Int.ofNat a) (Int.ofNat f)) = if wh ≤ Int.ofNat k ∧ Int.ofNat a = who ∧ Int.ofNat f = fd then w else mget x.M (key 8 (Int.ofNat a) (Int.ofNat f)) := by
  unfold svM
  by_cases c : Int.ofNat k = wh
  · rw [if_pos c]
    show mget (memPut y.M 8 who fd w) _ = _
    rw [mget_put, h a f h10]
    by_cases d : Int.ofNat a = who ∧ Int.ofNat f = fd
    · obtain ⟨d1, d2⟩ := d
      have m := may8 a f (by subst d1; simp at hwho; omega) h10
      rw [d1, d2] at m
      rw [if_pos ⟨m, rfl, d1, d2⟩, if_pos ⟨by omega, d1, d2⟩]
    · rw [if_neg (fun q => d ⟨q.2.2.1, q.2.2.2⟩), if_neg (fun q => d q.2), if_neg (fun q => d q.2)]
  · rw [if_neg c, h a f h10]
    by_cases d : wh < Int.ofNat k
    · simp only [d, show wh ≤ Int.ofNat k by omega]
    · simp only [d, show ¬ wh ≤ Int.ofNat k by omega]
theorem svM_blk (k : Nat) (y : MS) : mget (svM who fd w wh k y).M (key 5 0 0) = mget y.M (key 5 0 0) := by
  unfold svM
  split
  · show mget (memPut y.M 8 who fd w) _ = _
    rw [mget_put, if_neg (fun q => by exact absurd q.2.1 (by decide))]
  · rfl
theorem sv_zero (hw : 0 ≤ wh) (hwho : 0 ≤ who ∧ who < Int.ofNat n) (hn : n ≤ 16) (hn0 : 0 < n) (hf : 1 ≤ fd ∧ fd ≤ 9) : SvOk g w who fd wh n x 0 (svN who fd w wh x 0) := by
  rw [svN_zero]
  refine ⟨?_, ?_, ?_, ?_⟩
  · show (0 : Int) = Int.ofNat (svTa n 0)
    unfold svTa; rw [if_pos (by omega)]; rfl
  · show (0 : Int) = Int.ofNat (svFl n 0)
    unfold svFl; rw [if_pos (by omega)]; rfl
  · intro i j
    show AV.sym .u64 0 = _
    unfold svF; rw [if_neg (by omega)]
  · intro a f h10
    show mget (svM who fd w wh 0 x).M _ = _
    exact svM_get (x := x) (w := w) hw hwho hn hf 0 x (fun a f _ => by rw [if_neg (fun q => by have := q.1; simp at this; omega)]) a f h10
theorem sv_succ (hw : 0 ≤ wh) (hwho : 0 ≤ who ∧ who < Int.ofNat n) (hn : n ≤ 16) (hf : 1 ≤ fd ∧ fd ≤ 9)
    (hx : ∀ a f : Nat, f < 10 → mget x.M (key 8 (Int.ofNat a) (Int.ofNat f)) = if a < n then avInt (g a f) else 0) (hown : ∀ i, i < n → avInt (g i 0) ≠ 0)
    (k : Nat) (h : SvOk g w who fd wh n x k (svN who fd w wh x k)) : SvOk g w who fd wh n x (k + 1) (svN who fd w wh x (k + 1)) := by
  obtain ⟨h1, h2, h3, h4⟩ := h
  rw [svN_succ]
  have hM := svM_get (x := x) (w := w) hw hwho hn hf (k + 1) (svN who fd w wh x k).m (fun a f hl => by
    rw [h4 a f hl]
    have : (wh ≤ Int.ofNat k) = (wh < Int.ofNat (k + 1)) := by apply propext; simp; omega
    simp only [this])
  generalize svM who fd w wh (k + 1) (svN who fd w wh x k).m = y at *
  generalize svN who fd w wh x k = s at *
  have hfl : svFl n k < 10 := by unfold svFl; split <;> omega
  -- the word that is read
  have hval : mget y.M (key 8 s.ta s.fl) = if svTa n k < n then svV g w who fd wh (svTa n k) (svFl n k) else 0 := by
    rw [h1, h2, hM _ _ hfl, hx _ _ hfl]
    unfold svV
    by_cases c : Int.ofNat (svTa n k) = who ∧ Int.ofNat (svFl n k) = fd
    · obtain ⟨c1, c2⟩ := c
      have hlt : svTa n k < n := by have := hwho.2; rw [← c1] at this; simpa using this
      have hk := svp_k hlt
      have e : (wh ≤ Int.ofNat (k + 1)) = (wh ≤ 1 + 10 * who + fd) := by
        rw [← c1, ← c2]; apply propext
        have : Int.ofNat (k + 1) = 1 + 10 * Int.ofNat (svTa n k) + Int.ofNat (svFl n k) := by simp; omega
        rw [this]
      rw [if_pos hlt, if_pos hlt]
      simp only [c1, c2, e, true_and, and_true, and_self]
    · rw [if_neg (fun q => c q.2)]
      by_cases d : svTa n k < n
      · rw [if_pos d, if_pos d, if_neg (fun q => c ⟨q.1, q.2.1⟩)]
      · rw [if_neg d, if_neg d]
  have hF : ∀ i j, tkF s.F s.ta s.fl (mget y.M (key 8 s.ta s.fl)) i j = .sym .u64 (svF g w who fd wh n (k + 1) i j) := by
    intro i j
    unfold tkF
    rw [hval, h3 i j, h1, h2]
    simp only [Int.ofNat_eq_natCast, Int.toNat_natCast]
    by_cases c : i = svTa n k
    · rw [if_pos c]
      by_cases d : j = svFl n k
      · rw [if_pos d]
        congr 1
        subst c; subst d
        unfold svF
        by_cases q : svTa n k < n
        · rw [if_pos q, if_pos ⟨by have := svp_k q; omega, q, hfl⟩]
        · rw [if_neg q, if_neg (fun p => q p.2.1)]
      · rw [if_neg d]
        congr 1
        subst c
        unfold svF
        by_cases q : svTa n k < n
        · have := svp_k q
          have e : (10 * svTa n k + j < k) = (10 * svTa n k + j < k + 1) := by apply propext; omega
          simp only [e]
        · rw [if_neg (fun p => q p.2.1), if_neg (fun p => q p.2.1)]
    · rw [if_neg c]
      congr 1
      unfold svF
      by_cases q : i < n ∧ j < 10
      · have : (10 * i + j < k) = (10 * i + j < k + 1) := by
          apply propext
          by_cases r : k < 10 * n
          · rw [(svp_lo r).1] at c; omega
          · omega
        simp only [this]
      · rw [if_neg (fun p => q ⟨p.2.1, p.2.2⟩), if_neg (fun p => q ⟨p.2.1, p.2.2⟩)]
  have hO : tkOwn y.M s.F s.ta s.fl = 0 ↔ ¬ svTa n k < n := by
    unfold tkOwn
    rw [hF]
    rw [h1]
    simp only [Int.ofNat_eq_natCast, Int.toNat_natCast, avInt]
    unfold svF
    by_cases q : svTa n k < n
    · rw [if_pos ⟨by have := svp_k q; omega, q, by omega⟩]
      unfold svV
      rw [if_neg (fun p => by have := p.2.1; simp at this; omega)]
      exact ⟨fun e => absurd e (hown _ q), fun e => absurd q e⟩
    · rw [if_neg (fun p => q p.2.1)]
      exact ⟨fun _ => q, fun _ => rfl⟩
  have h9 : (s.fl = 9) = (svFl n k = 9) := by rw [h2]; apply propext; simp; omega
  refine ⟨?_, ?_, hF, fun a f hl => hM a f hl⟩
  · show tkAt y.M s.F s.ta s.fl = _
    unfold tkAt
    by_cases p : k < 10 * n
    · have l := (svp_lt n k).2 p
      obtain ⟨q1, q2⟩ := svp_lo p
      by_cases r : k % 10 = 9
      · rw [if_pos (.inr (by rw [h2, q2, r]; rfl)), h1, q1]
        by_cases p2 : k + 1 < 10 * n
        · rw [(svp_lo p2).1]; simp; omega
        · rw [(svp_hi p2).1]; simp; omega
      · rw [if_neg (fun e => e.elim (fun e => hO.1 e l) (fun e => by rw [h2, q2] at e; simp at e; omega)), h1, q1, (svp_lo (show k + 1 < 10 * n by omega)).1]
        simp; omega
    · obtain ⟨q1, q2⟩ := svp_hi p
      rw [if_pos (.inl (hO.2 (fun e => p ((svp_lt n k).1 e)))), h1, q1, (svp_hi (show ¬ k + 1 < 10 * n by omega)).1]
      simp; omega
  · show tkFl y.M s.F s.ta s.fl = _
    unfold tkFl
    by_cases p : k < 10 * n
    · have l := (svp_lt n k).2 p
      obtain ⟨q1, q2⟩ := svp_lo p
      by_cases r : k % 10 = 9
      · rw [if_pos (.inr (by rw [h2, q2, r]; rfl))]
        by_cases p2 : k + 1 < 10 * n
        · rw [(svp_lo p2).2]; simp; omega
        · rw [(svp_hi p2).2]; rfl
      · rw [if_neg (fun e => e.elim (fun e => hO.1 e l) (fun e => by rw [h2, q2] at e; simp at e; omega)), h2, q2, (svp_lo (show k + 1 < 10 * n by omega)).2]
        simp; omega
    · rw [if_pos (.inl (hO.2 (fun e => p ((svp_lt n k).1 e)))), (svp_hi (show ¬ k + 1 < 10 * n by omega)).2]
      rfl
theorem sv_all (hw : 0 ≤ wh) (hwho : 0 ≤ who ∧ who < Int.ofNat n) (hn : n ≤ 16) (hf : 1 ≤ fd ∧ fd ≤ 9)
    (hx : ∀ a f : Nat, f < 10 → mget x.M (key 8 (Int.ofNat a) (Int.ofNat f)) = if a < n then avInt (g a f) else 0) (hown : ∀ i, i < n → avInt (g i 0) ≠ 0) :
    ∀ k, SvOk g w who fd wh n x k (svN who fd w wh x k)
  | 0 => sv_zero hw hwho hn (by have := hwho; simp at this; omega) hf
  | k + 1 => sv_succ hw hwho hn hf hx hown k (sv_all hw hwho hn hf hx hown k)
end
end Go.Proofs.Ytmlfmmnnbdlabaa
