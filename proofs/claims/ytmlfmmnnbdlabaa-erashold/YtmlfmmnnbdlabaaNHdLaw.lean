/-
  ErasHold: the plain law.
-/
import Derived.Test.YtmlfmmnnbdlabaaNHe
import Derived.Test.YtmlfmmnnbdlabaaNIx
import Derived.Test.YtmlfmmnnbdlabaaNSg
set_option linter.unusedSimpArgs false
set_option linter.unusedVariables false
namespace Go.Proofs.Ytmlfmmnnbdlabaa
open Go.Ev
theorem may_F {M : List Int → Option Int} {sl ge : Int} {mk : Bool} {b ep er : Int} (hb : mget M (key 5 0 0) = 1) (ho : ∀ a : Nat, a < 4 → (mget M (key 8 (Int.ofNat a) 0) ≠ 0 ↔ a = 3)) :
    skAl M = 4 ∧ decide (srch (ixfP (skAl M) (skAl M) (some (skAl M)) false (stF M) sl ge mk b ep er) (skAl M) (fun i => Int.ofNat i) (-1) ≥ 0) = (and2 (!decide (mget M (key 8 3 4) = 0)) (and2 (!decide (mget M (key 8 3 5) = 0)) (and2 (decide (IntKind.u64.wrap (mget M (key 8 3 4) - 1) ≤ er)) (decide (b ≤ IntKind.u64.wrap (mget M (key 8 3 5) - 1)))))) := by
  have e4 : skAl M = 4 := by unfold skAl tbN; rw [hb]; rfl
  refine ⟨e4, ?_⟩
  rw [e4]
  have hno : ∀ i : Nat, i < 3 → ixfP 4 4 (some 4) false (stF M) sl ge mk b ep er i = false := fun i hi => by
    have : stV M i 4 = 0 := by
      unfold stV
      rw [if_neg (fun o => by have := (ho i (by omega)).1 o; omega)]
    unfold ixfP
    rw [Nat.zero_add]
    have e : avInt (stF M i 4) = 0 := this
    rw [e]; rfl
  have own : stOwn M 3 := (ho 3 (by omega)).2 rfl
  have h3 : ixfP 4 4 (some 4) false (stF M) sl ge mk b ep er 3 = (and2 (!decide (mget M (key 8 3 4) = 0)) (and2 (!decide (mget M (key 8 3 5) = 0)) (and2 (decide (IntKind.u64.wrap (mget M (key 8 3 4) - 1) ≤ er)) (decide (b ≤ IntKind.u64.wrap (mget M (key 8 3 5) - 1)))))) := by
    have e : ∀ j, avInt (stF M (0 + 3) j) = mget M (key 8 3 (Int.ofNat j)) := fun j => by
      show stV M 3 j = _
      unfold stV; rw [if_pos own]; rfl
    unfold ixfP
    rw [e 4, e 5]; rfl
  rw [← h3]
  cases h : ixfP 4 4 (some 4) false (stF M) sl ge mk b ep er 3 with
  | true => rw [srch_at (k := 3) (by omega) h hno]; rfl
  | false => rw [srch_no (fun i hi => by
      by_cases c : i = 3
      · subst c; exact h
      · exact hno i (by omega))]; rfl
/-- What stands behind k moves. -/
structure HdOk (a : Int) (k : Nat) (s : HS) : Prop where
  hi : s.hi = s.high + 1
  lo : a ≤ s.high
  hn : s.high ≤ s.now
  up : s.now ≤ a + 2 * Int.ofNat k
  e : mget s.X.M (key 2 0 0) = s.now
  l : mget s.X.M (key 8 3 4) = a + 1
  h : mget s.X.M (key 8 3 5) = s.high + 1
  b : mget s.X.M (key 5 0 0) = 1
  o : ∀ i : Nat, i < 4 → (mget s.X.M (key 8 (Int.ofNat i) 0) ≠ 0 ↔ i = 3)
theorem hd_u64 {x : Int} (h0 : 0 ≤ x) (h1 : x < 18446744073709551616) : IntKind.u64.wrap x = x := u64w h0 h1
theorem hd_W {a now mv : Int} {k : Nat} (ha : 0 ≤ a ∧ a < 1099511627776) (h0 : a ≤ now) (h1 : now ≤ a + 2 * Int.ofNat k) (hk : k ≤ 100) (hm : 0 ≤ mv) : now ≤ hdW now mv ∧ hdW now mv ≤ a + 2 * Int.ofNat (k + 1) := by
  unfold hdW
  have q0 := Int.tmod_nonneg 3 hm
  have q1 := Int.tmod_lt_of_pos mv (b := 3) (by decide)
  rw [hd_u64 (x := mv.tmod 3) (by omega) (by omega)]
  simp at h1
  rw [hd_u64 (by omega) (by omega)]
  simp; omega
theorem era_put (M : List Int → Option Int) (w : Int) : (∀ k a f, ¬ (k = 2 ∧ a = 0 ∧ f = 0) → mget (memPut M 2 0 0 w) (key k a f) = mget M (key k a f)) ∧ mget (memPut M 2 0 0 w) (key 2 0 0) = w :=
  ⟨fun k a f h => by rw [mget_put, if_neg (fun q => h ⟨q.2.1, q.2.2.1, q.2.2.2⟩)], by rw [mget_put, if_pos ⟨rfl, rfl, rfl, rfl⟩]⟩
theorem hdV_eq {X : MS} {w : Int} (h0 : 0 ≤ w) (h1 : w < 9223372036854775808) : hdV X w = w + 1 := by
  unfold hdV
  rw [(era_put X.M w).2]
  exact hd_u64 (by omega) (by omega)
theorem hi_put (M : List Int → Option Int) (f w : Int) (hf : 0 ≤ f ∧ f < 10) : (∀ k a g, ¬ (k = 8 ∧ a = 3 ∧ g = f) → mget (memPut M 8 3 f w) (key k a g) = mget M (key k a g)) ∧ mget (memPut M 8 3 f w) (key 8 3 f) = w := by
  refine ⟨fun k a g h => by rw [mget_put, if_neg (fun q => h ⟨q.2.1, q.2.2.1, q.2.2.2⟩)], ?_⟩
  rw [mget_put, if_pos]
  refine ⟨?_, rfl, rfl, rfl⟩
  rcases (show f = 0 ∨ f = 1 ∨ f = 2 ∨ f = 3 ∨ f = 4 ∨ f = 5 ∨ f = 6 ∨ f = 7 ∨ f = 8 ∨ f = 9 by omega) with e | e | e | e | e | e | e | e | e | e <;> subst e <;> rfl
theorem hd_step {a : Int} {k : Nat} {s : HS} (ha : 0 ≤ a ∧ a < 1099511627776) (hk : k < 100) {mv : Int} (hm : 0 ≤ mv) (h : HdOk a k s) :
    HdOk a (k + 1) (hdS mv s) ∧ (hdV s.X (hdW s.now mv) = s.hi ↔ hdW s.now mv = s.high) := by
  have hw := hd_W (k := k) (mv := mv) ha (Int.le_trans h.lo h.hn) h.up (by omega) hm
  have hu := h.up
  have hh := h.hi
  have hl := h.lo
  have hn := h.hn
  have hV : hdV s.X (hdW s.now mv) = hdW s.now mv + 1 := hdV_eq (by omega) (by simp at hw; omega)
  obtain ⟨p1, p2⟩ := era_put s.X.M (hdW s.now mv)
  have pl : mget (memPut s.X.M 2 0 0 (hdW s.now mv)) (key 8 3 4) = a + 1 := by rw [p1 8 3 4 (by omega)]; exact h.l
  have ph : mget (memPut s.X.M 2 0 0 (hdW s.now mv)) (key 8 3 5) = s.high + 1 := by rw [p1 8 3 5 (by omega)]; exact h.h
  have pb : mget (memPut s.X.M 2 0 0 (hdW s.now mv)) (key 5 0 0) = 1 := by rw [p1 5 0 0 (by omega)]; exact h.b
  have po : ∀ i : Nat, i < 4 → (mget (memPut s.X.M 2 0 0 (hdW s.now mv)) (key 8 (Int.ofNat i) 0) ≠ 0 ↔ i = 3) := fun i hi => by rw [p1 8 (Int.ofNat i) 0 (by omega)]; exact h.o i hi
  have iff : hdV s.X (hdW s.now mv) = s.hi ↔ hdW s.now mv = s.high := by rw [hV, hh]; omega
  refine ⟨?_, iff⟩
  unfold hdS
  by_cases c1 : (IntKind.u8.wrap (mv.tdiv 3)).tmod 2 = 1
  · rw [if_pos c1]
    exact ⟨hh, hl, Int.le_trans hn hw.1, hw.2, p2, pl, ph, pb, po⟩
  · rw [if_neg c1]
    by_cases c2 : hdV s.X (hdW s.now mv) = s.hi
    · rw [if_pos c2]
      have e := iff.1 c2
      exact ⟨by show s.hi = hdW s.now mv + 1; omega, by show a ≤ hdW s.now mv; omega, Int.le_refl _, hw.2, p2, pl, by show mget (memPut s.X.M 2 0 0 (hdW s.now mv)) (key 8 3 5) = hdW s.now mv + 1; rw [ph, e], pb, po⟩
    · rw [if_neg c2]
      obtain ⟨r1, r2⟩ := hi_put (memPut s.X.M 2 0 0 (hdW s.now mv)) 5 (hdV s.X (hdW s.now mv)) (by omega)
      exact ⟨hV, by show a ≤ hdW s.now mv; omega, Int.le_refl _, hw.2, (r1 2 0 0 (by omega)).trans p2, (r1 8 3 4 (by omega)).trans pl, r2.trans hV, (r1 5 0 0 (by omega)).trans pb, fun i hi => by
        have := po i hi
        rw [← r1 8 (Int.ofNat i) 0 (by omega)] at this; exact this⟩
theorem hd_all {g : Nat → Nat → AV} {n : Nat} {a : Int} {s0 : HS} (ha : 0 ≤ a ∧ a < 1099511627776) (hn : n ≤ 100) (hg : ∀ i, i < n → 0 ≤ avInt (g i 0)) (h : HdOk a 0 s0) : ∀ k, k ≤ n → HdOk a k (hdN g s0 k)
  | 0, _ => h
  | k + 1, hk => (hd_step ha (by omega) (by rw [Nat.zero_add]; exact hg k hk) (hd_all ha hn hg h k (by omega))).1
end Go.Proofs.Ytmlfmmnnbdlabaa
