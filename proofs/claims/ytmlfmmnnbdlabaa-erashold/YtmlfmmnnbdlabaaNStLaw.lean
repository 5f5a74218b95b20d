/-
  SnapsStill: a Taker over a memory that stays.
-/
import Derived.Test.YtmlfmmnnbdlabaaNSvLaw
set_option linter.unusedSimpArgs false
set_option linter.unusedVariables false
namespace Go.Proofs.Ytmlfmmnnbdlabaa
open Go.Ev
/-- What a thread costs a Taker; what all before i cost. -/
def stOwn (M : List Int → Option Int) (i : Nat) : Prop := mget M (key 8 (Int.ofNat i) 0) ≠ 0
instance (M : List Int → Option Int) (i : Nat) : Decidable (stOwn M i) := by unfold stOwn; infer_instance
def stC (M : List Int → Option Int) : Nat → Nat
  | 0 => 0
  | i + 1 => stC M i + if stOwn M i then 10 else 1
def stV (M : List Int → Option Int) (a j : Nat) : Int := if stOwn M a then mget M (key 8 (Int.ofNat a) (Int.ofNat j)) else 0
theorem stC_mono (M : List Int → Option Int) : ∀ {i j : Nat}, i ≤ j → stC M i + (j - i) ≤ stC M j := by
  intro i j h
  induction j with
  | zero => have : i = 0 := by omega
            subst this; simp
  | succ j ih =>
    by_cases c : i = j + 1
    · subst c; simp
    · have := ih (by omega)
      show _ ≤ stC M j + _
      split <;> omega
theorem stC_le (M : List Int → Option Int) : ∀ i, stC M i ≤ 10 * i
  | 0 => by simp [stC]
  | i + 1 => by
    have := stC_le M i
    show stC M i + _ ≤ _
    split <;> omega
/-- A Taker that has looked at k words of a memory that stays. -/
structure StOk (x : MS) (k : Nat) (s : SV) : Prop where
  M : s.m.M = x.M
  st : s.m.st = IntKind.i64.wrap (x.st + (Int.ofNat k + 1))
  p : ∃ i f : Nat, s.ta = Int.ofNat i ∧ s.fl = Int.ofNat f ∧ f ≤ 9 ∧ (f ≠ 0 → stOwn x.M i) ∧ k = stC x.M i + f ∧
    ∀ a j, s.F a j = .sym .u64 (if a < i ∧ j < 10 then stV x.M a j else if a = i ∧ j < f then stV x.M a j else 0)
section
variable {x : MS} {who fd w : Int}
theorem svM_no (i : Nat) (y : MS) : svM who fd w (-1) i y = y := if_neg (by simp)
theorem wrap_add (a b : Int) : IntKind.i64.wrap (IntKind.i64.wrap a + b) = IntKind.i64.wrap (a + b) := by
  simp only [show ∀ x, IntKind.i64.wrap x = (if (true && decide (x % 18446744073709551616 ≥ (9223372036854775808 : Int))) = true then x % 18446744073709551616 - 18446744073709551616 else x % 18446744073709551616) from fun _ => rfl]
  simp only [Bool.true_and, decide_eq_true_eq]
  split <;> split <;> split <;> omega
theorem st_zero : StOk x 0 (svN who fd w (-1) x 0) := by
  rw [svN_zero, svM_no]
  refine ⟨rfl, rfl, 0, 0, rfl, rfl, by omega, fun h => absurd rfl h, rfl, fun a j => ?_⟩
  show AV.sym .u64 0 = _
  rw [if_neg (by omega), if_neg (by omega)]
theorem st_succ {k : Nat} (h : StOk x k (svN who fd w (-1) x k)) : StOk x (k + 1) (svN who fd w (-1) x (k + 1)) := by
  rw [svN_succ, svM_no]
  generalize svN who fd w (-1) x k = s at *
  obtain ⟨hM, hst, i, f, h1, h2, h9, ho, hk, hF⟩ := h
  have hst2 : (svS s.m s).m.st = IntKind.i64.wrap (x.st + (Int.ofNat (k + 1) + 1)) := by
    show IntKind.i64.wrap (s.m.st + 1) = _
    rw [hst, wrap_add]
    congr 1
    simp only [Int.ofNat_eq_natCast, Int.natCast_add]; omega
  have hF2 : ∀ a j, (svS s.m s).F a j = if a = i then (if j = f then .sym .u64 (mget x.M (key 8 (Int.ofNat i) (Int.ofNat f))) else s.F a j) else s.F a j := fun a j => by
    show tkF s.F s.ta s.fl (mget s.m.M (key 8 s.ta s.fl)) a j = _
    unfold tkF
    rw [h1, h2, hM]
    rfl
  have hO : tkOwn s.m.M s.F s.ta s.fl = 0 ↔ ¬ stOwn x.M i := by
    have e : tkOwn s.m.M s.F s.ta s.fl = avInt ((svS s.m s).F s.ta.toNat 0) := rfl
    rw [e, h1]
    show avInt ((svS s.m s).F i 0) = 0 ↔ _
    rw [hF2, if_pos rfl]
    by_cases c : 0 = f
    · rw [if_pos c]
      subst c
      show mget x.M (key 8 (Int.ofNat i) 0) = 0 ↔ ¬ (mget x.M (key 8 (Int.ofNat i) 0) ≠ 0)
      omega
    · rw [if_neg c, hF, if_neg (by omega), if_pos ⟨rfl, by omega⟩]
      have := ho (fun e => c e.symm)
      unfold stV
      rw [if_pos this]
      show mget x.M (key 8 (Int.ofNat i) 0) = 0 ↔ _
      exact ⟨fun e => absurd e this, fun e => absurd this e⟩
  have hw : ∀ j, j ≤ f → (stOwn x.M i ∨ j = f ∧ f = 0) → stV x.M i j = mget x.M (key 8 (Int.ofNat i) (Int.ofNat j)) := fun j hj hh => by
    unfold stV
    by_cases c : stOwn x.M i
    · rw [if_pos c]
    · rw [if_neg c]
      obtain ⟨e1, e2⟩ := hh.resolve_left c
      subst e1; subst e2
      have : ¬ (mget x.M (key 8 (Int.ofNat i) 0) ≠ 0) := c
      show (0 : Int) = mget x.M (key 8 (Int.ofNat i) 0)
      omega
  have hoo : stOwn x.M i ∨ f = 0 := by
    by_cases c : f = 0
    · exact .inr c
    · exact .inl (ho c)
  have hta : (svS s.m s).ta = if ¬ stOwn x.M i ∨ f = 9 then Int.ofNat (i + 1) else Int.ofNat i := by
    show tkAt s.m.M s.F s.ta s.fl = _
    unfold tkAt
    by_cases c : ¬ stOwn x.M i ∨ f = 9
    · rw [if_pos c, if_pos (c.elim (fun q => .inl (hO.2 q)) (fun q => .inr (by rw [h2, q]; rfl))), h1]; rfl
    · rw [if_neg c, if_neg (fun e => c (e.elim (fun q => .inl (hO.1 q)) (fun q => .inr (by rw [h2] at q; simp at q; omega)))), h1]
  have hfl : (svS s.m s).fl = if ¬ stOwn x.M i ∨ f = 9 then Int.ofNat 0 else Int.ofNat (f + 1) := by
    show tkFl s.m.M s.F s.ta s.fl = _
    unfold tkFl
    by_cases c : ¬ stOwn x.M i ∨ f = 9
    · rw [if_pos c, if_pos (c.elim (fun q => .inl (hO.2 q)) (fun q => .inr (by rw [h2, q]; rfl)))]; rfl
    · rw [if_neg c, if_neg (fun e => c (e.elim (fun q => .inl (hO.1 q)) (fun q => .inr (by rw [h2] at q; simp at q; omega)))), h2]; rfl
  refine ⟨hM, hst2, ?_⟩
  by_cases c : ¬ stOwn x.M i ∨ f = 9
  · rw [if_pos c] at hta hfl
    refine ⟨i + 1, 0, hta, hfl, by omega, fun h => absurd rfl h, ?_, fun a j => ?_⟩
    · show k + 1 = stC x.M i + (if stOwn x.M i then 10 else 1) + 0
      by_cases o : stOwn x.M i
      · rw [if_pos o]
        have := c.resolve_left (fun q => q o)
        omega
      · rw [if_neg o]
        have : f = 0 := hoo.resolve_left o
        omega
    · rw [hF2, hF]
      by_cases a1 : a = i
      · subst a1
        rw [if_pos rfl]
        by_cases j1 : j = f
        · rw [if_pos j1, if_pos ⟨by omega, by omega⟩]
          subst j1
          rw [hw j (by omega) (hoo.elim .inl (fun q => .inr ⟨rfl, q⟩))]
        · rw [if_neg j1, if_neg (by omega)]
          by_cases o : stOwn x.M a
          · have f9 := c.resolve_left (fun q => q o)
            by_cases j2 : j < f
            · rw [if_pos ⟨rfl, j2⟩, if_pos ⟨by omega, by omega⟩]
            · rw [if_neg (by omega), if_neg (by omega), if_neg (by omega)]
          · have f0 := hoo.resolve_left o
            rw [if_neg (by omega)]
            have z : stV x.M a j = 0 := by unfold stV; rw [if_neg o]
            rw [z]
            split <;> first | rfl | (split <;> rfl)
      · rw [if_neg a1]
        by_cases a2 : a < i ∧ j < 10
        · rw [if_pos a2, if_pos ⟨by omega, a2.2⟩]
        · rw [if_neg a2, if_neg (by omega), if_neg (by omega), if_neg (by omega)]
  · rw [if_neg c] at hta hfl
    have o : stOwn x.M i := Classical.byContradiction (fun q => c (.inl q))
    have f9 : f ≠ 9 := fun q => c (.inr q)
    refine ⟨i, f + 1, hta, hfl, by omega, fun _ => o, by omega, fun a j => ?_⟩
    rw [hF2, hF]
    by_cases a1 : a = i
    · subst a1
      rw [if_pos rfl]
      by_cases j1 : j = f
      · rw [if_pos j1, if_neg (by omega), if_pos ⟨rfl, by omega⟩]
        subst j1
        rw [hw j (by omega) (.inl o)]
      · rw [if_neg j1, if_neg (show ¬ (a < a ∧ j < 10) by omega)]
        by_cases j2 : j < f
        · rw [if_pos (show a = a ∧ j < f from ⟨rfl, j2⟩), if_neg (show ¬ (a < a ∧ j < 10) by omega), if_pos (show a = a ∧ j < f + 1 from ⟨rfl, by omega⟩)]
        · rw [if_neg (show ¬ (a = a ∧ j < f) from fun q => j2 q.2), if_neg (show ¬ (a < a ∧ j < 10) by omega), if_neg (show ¬ (a = a ∧ j < f + 1) by omega)]
    · rw [if_neg a1]
      by_cases a2 : a < i ∧ j < 10
      · rw [if_pos a2, if_pos a2]
      · rw [if_neg a2, if_neg a2, if_neg (by omega), if_neg (by omega)]
theorem st_all : ∀ k, StOk x k (svN who fd w (-1) x k)
  | 0 => st_zero
  | k + 1 => st_succ (st_all k)
end
/-- How many threads there are. -/
def skAl (M : List Int → Option Int) : Nat := (tbN M).toNat
def stF (M : List Int → Option Int) : Nat → Nat → AV := fun i j => .sym .u64 (stV M i j)
theorem skAl_eq {M : List Int → Option Int} (hb : 0 ≤ mget M (key 5 0 0)) : ∃ b : Nat, b ≤ 4 ∧ skAl M = 4 * b ∧ tbN M = Int.ofNat (skAl M) ∧ (b = 0 ↔ mget M (key 5 0 0) = 0) := by
  unfold skAl tbN
  by_cases c : 4 < mget M (key 5 0 0)
  · rw [if_pos c]; exact ⟨4, by omega, rfl, rfl, by omega⟩
  · rw [if_neg c]
    refine ⟨(mget M (key 5 0 0)).toNat, by omega, by omega, ?_, by omega⟩
    simp; omega
theorem st_pre {x : MS} {k al : Nat} {s : SV} (h : StOk x k s) (hk : k < stC x.M al) (hal : al ≤ 16) : TkPre s.F s.ta s.fl (Int.ofNat al) al ∧ s.ta ≠ Int.ofNat al := by
  obtain ⟨_, _, i, f, h1, h2, h9, ho, hk2, hF⟩ := h
  have hi : i < al := Classical.byContradiction (fun c => by
    have := stC_mono x.M (show al ≤ i by omega); omega)
  refine ⟨⟨by rw [h2]; simp, by rw [h2]; simp; omega, by rw [h1]; simp, by rw [h1]; simpa using hi, rfl, by omega, fun hne => ?_⟩, fun e => ?_⟩
  · rw [h2] at hne
    have hf : f ≠ 0 := fun e => hne (by rw [e]; rfl)
    have o := ho hf
    rw [h1]
    show avInt (s.F i 0) ≠ 0
    rw [hF, if_neg (by omega), if_pos ⟨rfl, by omega⟩]
    show stV x.M i 0 ≠ 0
    unfold stV
    rw [if_pos o]
    exact o
  · rw [h1] at e
    have := Int.ofNat.inj e
    omega
theorem st_end {x : MS} {al : Nat} {s : SV} (h : StOk x (stC x.M al) s) : s.ta = Int.ofNat al ∧ ∀ a j, a < al → j < 10 → s.F a j = .sym .u64 (stV x.M a j) := by
  obtain ⟨_, _, i, f, h1, h2, h9, ho, hk2, hF⟩ := h
  have hi : i = al := by
    rcases Nat.lt_trichotomy i al with c | c | c
    · have q := stC_mono x.M (show i + 1 ≤ al from c)
      have e : stC x.M (i + 1) = stC x.M i + if stOwn x.M i then 10 else 1 := rfl
      by_cases o : stOwn x.M i
      · rw [if_pos o] at e; omega
      · rw [if_neg o] at e
        have : f = 0 := Classical.byContradiction (fun q => o (ho q))
        omega
    · exact c
    · have := stC_mono x.M (show al ≤ i by omega); omega
  subst hi
  refine ⟨h1, fun a j ha hj => ?_⟩
  rw [hF, if_pos ⟨ha, hj⟩]
theorem stF_rows {M : List Int → Option Int} {n : Nat} (F : Nat → Nat → AV) (h : ∀ a j, a < n → j < 10 → F a j = .sym .u64 (stV M a j)) : ∀ i, i < n → rowOb tSh 0 (fun j => F (0 + i) j) (stF M i) := fun i hi => by
  have e : ∀ j, j < 10 → stF M i j = .sym .u64 (avInt (F (0 + i) j)) := fun j hj => by rw [Nat.zero_add, h i j hi hj]; rfl
  exact ⟨e 0 (by decide), e 1 (by decide), e 2 (by decide), e 3 (by decide), e 4 (by decide), e 5 (by decide), e 6 (by decide), e 7 (by decide), e 8 (by decide), e 9 (by decide), trivial⟩
end Go.Proofs.Ytmlfmmnnbdlabaa
