/-
  ErasBump: the plain law: of bumps that read one era just one moves it.
-/
import Derived.Test.YtmlfmmnnbdlabaaEvMemD
set_option linter.unusedSimpArgs false
set_option linter.unusedVariables false
namespace Go.Ev
def bL (l : Int) : Int := if l = 0 then l else IntKind.i64.wrap (l - 1)
def bE (l e : Int) (M : List Int → Option Int) : Int := if l = 0 then e else if l = 2 then mget M (key 2 0 0) else e
def bV (l e : Int) (v : Bool) (M : List Int → Option Int) : Bool := if l = 0 then v else if l = 2 then v else casD M 2 0 0 e
def bM (l e : Int) (M : List Int → Option Int) : List Int → Option Int := if l = 0 then M else if l = 2 then M else casM M 2 0 0 e (IntKind.u64.wrap (e + 1))
def bS (l e : Int) (m : MS) : MS := if l = 0 then m else if l = 2 then mLoad m 2 0 0 else mCas m 2 0 0 e (IntKind.u64.wrap (e + 1))
def bSt (l e : Int) (M : List Int → Option Int) (st c k a f w i : Int) (d : Bool) : MS := bS l e ⟨M, st, ⟨c, k, a, f, w, i, d⟩⟩
theorem bS_M (l e : Int) (m : MS) : (bS l e m).M = bM l e m.M := by unfold bS bM; split; rfl; split <;> rfl
structure Bst where
  l : Int
  e : Int
  v : Bool
def upd6 (B : Nat → Bst) (c : Nat) (b : Bst) : Nat → Bst := fun j => if j = c then b else B j
def bNx (b : Bst) (M : List Int → Option Int) : Bst := ⟨bL b.l, bE b.l b.e M, bV b.l b.e b.v M⟩
def zNx (b : Bst) (m : MS) : MS := bSt b.l b.e m.M m.st m.L.c m.L.k m.L.a m.L.f m.L.w m.L.i m.L.d
theorem zNx_M (b : Bst) (m : MS) : (zNx b m).M = bM b.l b.e m.M := bS_M ..
/-- How many moved. -/
def cnt (B : Nat → Bst) : Nat → Int
  | 0 => 0
  | n + 1 => cnt B n + (if (B n).v = true then 1 else 0)
theorem cnt_ge (B : Nat → Bst) : ∀ n, 0 ≤ cnt B n ∧ cnt B n ≤ n
  | 0 => ⟨Int.le_refl _, Int.le_refl _⟩
  | n + 1 => by have := cnt_ge B n; unfold cnt; split <;> omega
theorem cnt_upd (B : Nat → Bst) {c : Nat} (b : Bst) : ∀ n, cnt (upd6 B c b) n = cnt B n + (if c < n then (if b.v = true then 1 else 0) - (if (B c).v = true then 1 else 0) else 0)
  | 0 => by simp [cnt]
  | n + 1 => by
    have ih := cnt_upd B (c := c) b n
    unfold cnt
    rw [ih]
    by_cases e : n = c
    · subst e
      have : upd6 B n b n = b := by simp [upd6]
      rw [this, if_neg (Nat.lt_irrefl n), if_pos (Nat.lt_succ_self n)]
      omega
    · have : upd6 B c b n = B n := by simp [upd6, e]
      rw [this]
      by_cases h : c < n
      · have h' : c < n + 1 := by omega
        simp only [h, h', if_true]; omega
      · have h' : ¬ c < n + 1 := by omega
        simp only [h, h', if_false]; omega
theorem cnt_pos {B : Nat → Bst} : ∀ n, 1 ≤ cnt B n ∨ ∀ j, j < n → (B j).v = false
  | 0 => .inr (fun j h => by omega)
  | n + 1 => by
    have g := cnt_ge B n
    unfold cnt
    rcases cnt_pos (B := B) n with h | h
    · left; split <;> omega
    · cases hv : (B n).v with
      | true => left; simp; omega
      | false =>
        right
        intro j hj
        by_cases e : j = n
        · rw [e]; exact hv
        · exact h j (by omega)
def ebE (m : MS) : Int := mget m.M (key 2 0 0)
theorem wrapU (x : Int) : IntKind.u64.wrap x = x % 18446744073709551616 := rfl
structure EbInv (era : Int) (B : Nat → Bst) (m : MS) : Prop where
  e : ebE m = (era + cnt B 6) % 18446744073709551616
  l : ∀ j, j < 6 → (B j).l = 0 ∨ (B j).l = 1 ∨ (B j).l = 2
  v : ∀ j, j < 6 → (B j).l ≠ 0 → (B j).v = false
  r : ∀ j, j < 6 → (B j).l = 1 → 1 ≤ cnt B 6 ∨ (B j).e = ebE m
  o : ∀ j, j < 6 → (B j).l = 0 → 1 ≤ cnt B 6
theorem casD2 (M : List Int → Option Int) (e : Int) : casD M 2 0 0 e = decide (mget M (key 2 0 0) = e) := by
  unfold casD
  by_cases h : mget M (key 2 0 0) = e
  · simp [h, show mayA 2 0 0 = true by decide]
  · have : (mget M (key 2 0 0) == e) = false := by simpa using h
    rw [this]; simp [h]
theorem casM2 (M : List Int → Option Int) (e v : Int) : mget (casM M 2 0 0 e v) (key 2 0 0) = if mget M (key 2 0 0) = e then v else mget M (key 2 0 0) := by
  rw [casM_put, casD2]
  by_cases h : mget M (key 2 0 0) = e
  · simp [h, mget_put, show mayA 2 0 0 = true by decide]
  · simp [h]
theorem eb_step {era : Int} {B : Nat → Bst} {m : MS} (h : EbInv era B m) {c : Nat} (hc : c < 6) : EbInv era (upd6 B c (bNx (B c) m.M)) (zNx (B c) m) := by
  obtain ⟨he, hl, hv, hr, ho⟩ := h
  have hu : ∀ j, j ≠ c → upd6 B c (bNx (B c) m.M) j = B j := fun j e => by simp [upd6, e]
  have hs : upd6 B c (bNx (B c) m.M) c = bNx (B c) m.M := by simp [upd6]
  have hn := cnt_upd B (c := c) (bNx (B c) m.M) 6
  rw [if_pos hc] at hn
  have g := cnt_ge B 6
  rcases hl c hc with h0 | h1 | h2
  ·
    have hb : bNx (B c) m.M = B c := by simp [bNx, bL, bE, bV, h0]; rw [← h0]
    have hB : upd6 B c (bNx (B c) m.M) = B := by
      funext j
      by_cases e : j = c
      · rw [e, hs, hb]
      · exact hu j e
    have hz : (zNx (B c) m).M = m.M := by rw [zNx_M]; simp [bM, h0]
    have hE : ebE (zNx (B c) m) = ebE m := by unfold ebE; rw [hz]
    rw [hB]
    exact ⟨by rw [hE]; exact he, hl, hv, by rw [hE]; exact hr, ho⟩
  ·
    have hvc := hv c hc (by omega)
    have hb : bNx (B c) m.M = ⟨0, (B c).e, casD m.M 2 0 0 (B c).e⟩ := by simp [bNx, bL, bE, bV, h1]; rfl
    have hz : (zNx (B c) m).M = casM m.M 2 0 0 (B c).e (IntKind.u64.wrap ((B c).e + 1)) := by rw [zNx_M]; simp [bM, h1]
    have hE : ebE (zNx (B c) m) = if ebE m = (B c).e then ((B c).e + 1) % 18446744073709551616 else ebE m := by
      unfold ebE; rw [hz, casM2]; rfl
    have hd : casD m.M 2 0 0 (B c).e = decide (ebE m = (B c).e) := casD2 ..
    by_cases hq : ebE m = (B c).e
    · rw [hd, decide_eq_true hq] at hb
      rw [hb] at hn hs hu ⊢
      simp [hvc] at hn
      have hp : 1 ≤ cnt (upd6 B c ⟨0, (B c).e, true⟩) 6 := by rw [hn]; omega
      refine ⟨?_, ?_, ?_, fun j hj hjl => .inl hp, fun j hj hjl => hp⟩
      · rw [hE, if_pos hq, hn, ← hq, he]; omega
      · intro j hj
        by_cases e : j = c
        · rw [e, hs]; exact .inl rfl
        · rw [hu j e]; exact hl j hj
      · intro j hj hjl
        by_cases e : j = c
        · rw [e, hs] at hjl; exact (hjl rfl).elim
        · rw [hu j e] at hjl ⊢; exact hv j hj hjl
    · rw [hd, decide_eq_false hq] at hb
      rw [hb] at hn hs hu ⊢
      simp [hvc] at hn
      have hp : 1 ≤ cnt B 6 := by
        rcases hr c hc h1 with h | h
        · exact h
        · exact (hq h.symm).elim
      have hp2 : 1 ≤ cnt (upd6 B c ⟨0, (B c).e, false⟩) 6 := by rw [hn]; exact hp
      refine ⟨?_, ?_, ?_, fun j hj hjl => .inl hp2, fun j hj hjl => hp2⟩
      · rw [hE, if_neg hq, hn, he]
      · intro j hj
        by_cases e : j = c
        · rw [e, hs]; exact .inl rfl
        · rw [hu j e]; exact hl j hj
      · intro j hj hjl
        by_cases e : j = c
        · rw [e, hs] at hjl; exact (hjl rfl).elim
        · rw [hu j e] at hjl ⊢; exact hv j hj hjl
  ·
    have hvc := hv c hc (by omega)
    have hb : bNx (B c) m.M = ⟨1, ebE m, false⟩ := by simp [bNx, bL, bE, bV, h2, hvc]; exact ⟨rfl, rfl⟩
    have hz : (zNx (B c) m).M = m.M := by rw [zNx_M]; simp [bM, h2]
    have hE : ebE (zNx (B c) m) = ebE m := by unfold ebE; rw [hz]
    rw [hb] at hn hs hu ⊢
    simp [hvc] at hn
    refine ⟨by rw [hE, hn]; exact he, ?_, ?_, ?_, ?_⟩
    · intro j hj
      by_cases e : j = c
      · rw [e, hs]; exact .inr (.inl rfl)
      · rw [hu j e]; exact hl j hj
    · intro j hj hjl
      by_cases e : j = c
      · rw [e, hs]
      · rw [hu j e] at hjl ⊢; exact hv j hj hjl
    · intro j hj hjl
      rw [hE, hn]
      by_cases e : j = c
      · rw [e, hs]; exact .inr rfl
      · rw [hu j e] at hjl ⊢; exact hr j hj hjl
    · intro j hj hjl
      rw [hn]
      by_cases e : j = c
      · rw [e, hs] at hjl; simp at hjl
      · rw [hu j e] at hjl; exact ho j hj hjl
/-! ### the loops -/
structure EX where
  B : Nat → Bst
  m : MS
def zz (b : Bst) (m : MS) : MS := ⟨bM b.l b.e m.M, (zNx b m).st, (zNx b m).L⟩
theorem zz_eq (b : Bst) (m : MS) : zz b m = zNx b m := by
  have h := zNx_M b m
  unfold zz
  rw [← h]
def ebStep (x : EX) (c : Nat) : EX := ⟨upd6 x.B c (bNx (x.B c) x.m.M), zz (x.B c) x.m⟩
theorem ebStep_inv {era : Int} {x : EX} (h : EbInv era x.B x.m) {c : Nat} (hc : c < 6) : EbInv era (ebStep x c).B (ebStep x c).m := by
  show EbInv era (upd6 x.B c (bNx (x.B c) x.m.M)) (zz (x.B c) x.m)
  rw [zz_eq]
  exact eb_step h hc
def ebC (r : Nat → AV) : Nat := ((avInt (r 0)).tmod 6).toNat
def ebN (g : Nat → Nat → AV) (era : Int) : Nat → EX
  | 0 => ⟨fun _ => ⟨2, 0, false⟩, mStore ms0 2 0 0 era⟩
  | i + 1 => ebStep (ebN g era i) (ebC (g (0 + i)))
def eb2 (x : EX) : Nat → EX
  | 0 => x
  | i + 1 => ebStep (ebStep (eb2 x i) i) i
def mv2 (x : EX) : Nat → Int
  | 0 => 0
  | i + 1 => if ((eb2 x (i + 1)).B i).v = true then IntKind.u64.wrap (mv2 x i + 1) else mv2 x i
theorem cntN (B : Nat → Bst) (h : ∀ j, (B j).v = false) : ∀ n, cnt B n = 0
  | 0 => rfl
  | n + 1 => by unfold cnt; rw [cntN B h n, h n]; rfl
theorem ebN_inv {g : Nat → Nat → AV} {era : Int} (h0 : 0 ≤ era) (h1 : era < 18446744073709551616) : ∀ i, EbInv era (ebN g era i).B (ebN g era i).m
  | 0 => by
    have hE : ebE (ebN g era 0).m = era := by
      show mget (memPut _ 2 0 0 _) (key 2 0 0) = _
      rw [mget_put, if_pos ⟨by decide, rfl, rfl, rfl⟩]
    have hc : cnt (ebN g era 0).B 6 = 0 := cntN _ (fun _ => rfl) 6
    exact ⟨by rw [hE, hc]; omega, fun j _ => .inr (.inr rfl), fun j _ _ => rfl, fun j _ h => absurd h (by show ¬ (2 : Int) = 1; decide), fun j _ h => absurd h (by show ¬ (2 : Int) = 0; decide)⟩
  | i + 1 => ebStep_inv (ebN_inv h0 h1 i) (by
      unfold ebC
      have := Int.tmod_lt_of_pos (avInt (g (0 + i) 0)) (b := 6) (by decide)
      omega)
theorem eb2_inv {era : Int} {x : EX} (h : EbInv era x.B x.m) : ∀ i, i ≤ 6 → EbInv era (eb2 x i).B (eb2 x i).m
  | 0, _ => h
  | i + 1, hi => ebStep_inv (ebStep_inv (eb2_inv h i (by omega)) (by omega)) (by omega)
theorem bL_bL {l : Int} (h : l = 0 ∨ l = 1 ∨ l = 2) : bL (bL l) = 0 := by
  rcases h with rfl | rfl | rfl <;> decide
theorem eb2_at {era : Int} {x : EX} (h : EbInv era x.B x.m) {i : Nat} (hi : i < 6) : ((eb2 x (i + 1)).B i).l = 0 := by
  have := (eb2_inv h i (by omega)).l i hi
  show ((ebStep (ebStep (eb2 x i) i) i).B i).l = 0
  simp only [ebStep, upd6, if_true, bNx]
  exact bL_bL this
theorem eb2_keep {x : EX} {j i : Nat} (h : j < i) : ∀ k, (eb2 x (i + k)).B j = (eb2 x i).B j
  | 0 => rfl
  | k + 1 => by
    rw [← eb2_keep h k]
    show (ebStep (ebStep (eb2 x (i + k)) (i + k)) (i + k)).B j = _
    have e : j ≠ i + k := by omega
    simp [ebStep, upd6, e]
theorem mv2_cnt (x : EX) : ∀ i, i ≤ 6 → mv2 x i = cnt (eb2 x i).B i
  | 0, _ => rfl
  | i + 1, hi => by
    have ih := mv2_cnt x i (by omega)
    have g := cnt_ge (eb2 x i).B i
    have hc : cnt (eb2 x (i + 1)).B i = cnt (eb2 x i).B i := by
      show cnt (ebStep (ebStep (eb2 x i) i) i).B i = _
      unfold ebStep
      simp only [cnt_upd, Nat.lt_irrefl, if_false, Int.add_zero]
    unfold mv2 cnt
    rw [ih, hc]
    split
    · rw [wrapU]; omega
    · omega
theorem eb_end {era : Int} {x : EX} (h : EbInv era x.B x.m) : 1 ≤ mv2 x 6 ∧ mv2 x 6 ≤ 6 ∧ ebE (eb2 x 6).m = (era + mv2 x 6) % 18446744073709551616 := by
  have hI := eb2_inv h 6 (Nat.le_refl _)
  have h0 : ((eb2 x 6).B 0).l = 0 := by
    have := eb2_keep (x := x) (j := 0) (i := 1) (by omega) 5
    rw [this]
    exact eb2_at h (by omega)
  have hp := hI.o 0 (by omega) h0
  have hm := mv2_cnt x 6 (Nat.le_refl _)
  have g := cnt_ge (eb2 x 6).B 6
  exact ⟨by rw [hm]; exact hp, by rw [hm]; omega, by rw [hm]; exact hI.e⟩
end Go.Ev
