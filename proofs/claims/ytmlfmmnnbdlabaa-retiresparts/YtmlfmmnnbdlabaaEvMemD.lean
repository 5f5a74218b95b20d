/-
  Memories: the program's (a map), the document's (a list of words): definitions and plain facts.
-/
import Derived.Test.YtmlfmmnnbdlabaaEvAlt
set_option linter.unusedSimpArgs false
set_option linter.unusedVariables false
namespace Go.Ev

structure Wd where
  k : Int
  a : Int
  f : Int
  v : Int
def wSh : List CK := [.int .u8, .int .i64, .int .i64, .int .u64]
def wdOf (r : Nat → AV) : Wd := ⟨avInt (r 0), avInt (r 1), avInt (r 2), avInt (r 3)⟩
def wdR (w : Wd) : Nat → AV := fun j => match j with
  | 0 => .sym .u8 w.k
  | 1 => .sym .i64 w.a
  | 2 => .sym .i64 w.f
  | 3 => .sym .u64 w.v
  | _ => .top
def wdF (W : Nat → Wd) : Nat → Nat → AV := fun i j => wdR (W i) j
theorem row_wd {f : Nat → AV} {w : Wd} (h : wdOf f = w) : rowOb wSh 0 f (wdR w) := by
  subst h; exact ⟨rfl, rfl, rfl, rfl, trivial⟩

/-- The kind's numbers: how many At, how many fields. -/
def kAt (k : Int) : Int := if k = 6 then 32 else if k = 7 then 4 else if k = 8 then 16 else if k = 9 then 256 else if k = 10 then 9 else 1
def kFl (k : Int) : Int := if k = 6 then 2 else if k = 8 then 10 else if k = 9 then 8 else if k = 11 then 2 else 1
def mayA (k a f : Int) : Bool := decide (k ≤ 11 ∧ 0 ≤ a ∧ a < kAt k ∧ 0 ≤ f ∧ f < kFl k)
def mayR (k a f : Int) : LR := ⟨0, .symb (mayA k a f), [], 0, [], [0 ≤ k]⟩
def key (k a f : Int) : List Int := [k, a, f]
def memPut (M : List Int → Option Int) (k a f v : Int) : List Int → Option Int := match mayA k a f with
  | true => setKey M (key k a f) (some v)
  | false => M
def memIs (M : List Int → Option Int) (k a f v : Int) : Int := match mayA k a f with
  | true => v
  | false => mget M (key k a f)
theorem setKey2 (M : List Int → Option Int) (k : List Int) (a b : Option Int) : setKey (setKey M k a) k b = setKey M k b := by
  funext q
  simp only [setKey]
  split <;> rfl
def casD (M : List Int → Option Int) (k a f w : Int) : Bool := match mget M (key k a f) == w with
  | true => mayA k a f
  | false => false
def casM (M : List Int → Option Int) (k a f w v : Int) : List Int → Option Int := match casD M k a f w with
  | true => setKey M (key k a f) (some v)
  | false => M
def casI (M : List Int → Option Int) (k a f w v : Int) : Int := match casD M k a f w with
  | true => v
  | false => mget M (key k a f)
def lastL (c k a f w i : Int) (d : Bool) : List AV := [.sym .u8 c, .sym .u8 k, .sym .i64 a, .sym .i64 f, .sym .u64 w, .sym .u64 i, .symb d]

/-! ### the document's memory -/
structure DM where
  n : Nat
  W : Nat → Wd
def dOf (n : Nat) (g : Nat → Nat → AV) : DM := ⟨n, fun i => wdOf (g i)⟩
def hit (w : Wd) (k a f : Int) : Bool := and2 (w.k == k) (and2 (w.a == a) (and2 (w.f == f) true))
def dAt (D : DM) (k a f : Int) : Nat := fnd (fun i => hit (D.W (0 + i)) k a f) D.n
def dWord (D : DM) (k a f : Int) : Int := srch (fun i => hit (D.W (0 + i)) k a f) D.n (fun i => (D.W (0 + i)).v) 0
def dSet (D : DM) (j : Nat) (v : Int) : DM := ⟨D.n, fun i => if i = j then ⟨(D.W i).k, (D.W i).a, (D.W i).f, v⟩ else D.W i⟩
def dAdd (D : DM) (k a f v : Int) : DM := ⟨D.n + 1, fun i => if i < D.n then D.W i else ⟨k, a, f, v⟩⟩
def dPut (D : DM) (k a f v : Int) : DM := match mayA k a f with
  | false => D
  | true => match Nat.blt (dAt D k a f) D.n with
    | true => dSet D (dAt D k a f) v
    | false => dAdd D k a f v
def dCasD (D : DM) (k a f w : Int) : Bool := match dWord D k a f == w with
  | true => mayA k a f
  | false => false
def dCasM (D : DM) (k a f w v : Int) : DM := match dCasD D k a f w with
  | true => dPut D k a f v
  | false => D

theorem hit_iff {w : Wd} {k a f : Int} : hit w k a f = true ↔ w.k = k ∧ w.a = a ∧ w.f = f := by
  simp [hit, and2_eq]
theorem dOf_wdF (D : DM) : dOf D.n (wdF D.W) = D := rfl
theorem dPut_may {D : DM} {k a f v : Int} (h : mayA k a f = false) : dPut D k a f v = D := by simp [dPut, h]
theorem dPut_at {D : DM} {k a f v : Int} {j : Nat} (h : mayA k a f = true) (hj : j < D.n) (h2 : hit (D.W (0 + j)) k a f = true) (h3 : ∀ i, i < j → hit (D.W (0 + i)) k a f = false) : dPut D k a f v = dSet D j v := by
  have e : dAt D k a f = j := fnd_eq hj h2 h3
  have b : Nat.blt j D.n = true := by simpa [Nat.blt_eq] using hj
  simp only [dPut, h, e, b]
theorem dPut_no {D : DM} {k a f v : Int} (h : mayA k a f = true) (h3 : ∀ i, i < D.n → hit (D.W (0 + i)) k a f = false) : dPut D k a f v = dAdd D k a f v := by
  have e : dAt D k a f = D.n := fnd_none h3
  have b : Nat.blt D.n D.n = false := by
    cases hb : Nat.blt D.n D.n with
    | false => rfl
    | true => simp [Nat.blt_eq] at hb
  simp only [dPut, h, e, b]
theorem dPut_n (D : DM) (k a f v : Int) : (dPut D k a f v).n ≤ D.n + 1 ∧ D.n ≤ (dPut D k a f v).n := by
  unfold dPut
  split
  · exact ⟨by omega, by omega⟩
  · split
    · exact ⟨by simp [dSet], by simp [dSet]⟩
    · exact ⟨by simp [dAdd], by simp [dAdd]⟩

theorem dWord_at {D : DM} {k a f : Int} {j : Nat} (hj : j < D.n) (h2 : hit (D.W (0 + j)) k a f = true) (h3 : ∀ i, i < j → hit (D.W (0 + i)) k a f = false) : dWord D k a f = (D.W (0 + j)).v := srch_at hj h2 h3
theorem dWord_no {D : DM} {k a f : Int} (h3 : ∀ i, i < D.n → hit (D.W (0 + i)) k a f = false) : dWord D k a f = 0 := srch_no h3
theorem first_hit (D : DM) (k a f : Int) : (∀ i, i < D.n → hit (D.W (0 + i)) k a f = false) ∨ ∃ j, j < D.n ∧ hit (D.W (0 + j)) k a f = true ∧ ∀ i, i < j → hit (D.W (0 + i)) k a f = false := first_true _ _

theorem dWord_set {D : DM} {k a f v k' a' f' : Int} {j : Nat} (hj : j < D.n) (h2 : hit (D.W (0 + j)) k a f = true) (h3 : ∀ i, i < j → hit (D.W (0 + i)) k a f = false) :
    dWord (dSet D j v) k' a' f' = if k' = k ∧ a' = a ∧ f' = f then v else dWord D k' a' f' := by
  have hh : ∀ i, hit ((dSet D j v).W (0 + i)) k' a' f' = hit (D.W (0 + i)) k' a' f' := by
    intro i
    simp only [dSet, Nat.zero_add]
    split <;> rfl
  obtain ⟨e1, e2, e3⟩ := hit_iff.1 h2
  by_cases hk : k' = k ∧ a' = a ∧ f' = f
  · rw [if_pos hk]
    obtain ⟨rfl, rfl, rfl⟩ := hk
    rw [dWord_at (D := dSet D j v) hj (by rw [hh]; exact h2) (fun i hi => by rw [hh]; exact h3 i hi)]
    simp [dSet]
  · rw [if_neg hk]
    rcases first_hit D k' a' f' with h | ⟨i, q1, q2, q3⟩
    · rw [dWord_no h, dWord_no (D := dSet D j v) (fun i hi => by rw [hh]; exact h i hi)]
    · rw [dWord_at q1 q2 q3, dWord_at (D := dSet D j v) q1 (by rw [hh]; exact q2) (fun l hl => by rw [hh]; exact q3 l hl)]
      have : i ≠ j := fun e => by
        subst e
        obtain ⟨z1, z2, z3⟩ := hit_iff.1 q2
        exact hk ⟨z1.symm.trans e1, z2.symm.trans e2, z3.symm.trans e3⟩
      simp [dSet, this]
theorem dWord_add {D : DM} {k a f v k' a' f' : Int} (h3 : ∀ i, i < D.n → hit (D.W (0 + i)) k a f = false) :
    dWord (dAdd D k a f v) k' a' f' = if k' = k ∧ a' = a ∧ f' = f then v else dWord D k' a' f' := by
  have hh : ∀ i, i < D.n → (dAdd D k a f v).W (0 + i) = D.W (0 + i) := by
    intro i hi
    simp only [dAdd, Nat.zero_add]
    rw [if_pos hi]
  have hl : (dAdd D k a f v).W (0 + D.n) = ⟨k, a, f, v⟩ := by simp [dAdd]
  by_cases hk : k' = k ∧ a' = a ∧ f' = f
  · rw [if_pos hk]
    obtain ⟨rfl, rfl, rfl⟩ := hk
    rw [dWord_at (D := dAdd D k' a' f' v) (j := D.n) (by simp [dAdd]) (by rw [hl]; exact hit_iff.2 ⟨rfl, rfl, rfl⟩) (fun i hi => by rw [hh i hi]; exact h3 i hi), hl]
  · rw [if_neg hk]
    rcases first_hit D k' a' f' with h | ⟨i, q1, q2, q3⟩
    · rw [dWord_no h, dWord_no (D := dAdd D k a f v) (fun i hi => by
        by_cases e : i < D.n
        · rw [hh i e]; exact h i e
        · have : i = D.n := by simp [dAdd] at hi; omega
          subst this
          rw [hl]
          cases hq : hit (⟨k, a, f, v⟩ : Wd) k' a' f' with
          | false => rfl
          | true => obtain ⟨z1, z2, z3⟩ := hit_iff.1 hq; exact (hk ⟨z1.symm, z2.symm, z3.symm⟩).elim)]
    · rw [dWord_at q1 q2 q3, dWord_at (D := dAdd D k a f v) (j := i) (by simp [dAdd]; omega) (by rw [hh i q1]; exact q2) (fun l hl => by rw [hh l (by omega)]; exact q3 l hl), hh i q1]
theorem dWord_put (D : DM) (k a f v k' a' f' : Int) : dWord (dPut D k a f v) k' a' f' = if mayA k a f = true ∧ k' = k ∧ a' = a ∧ f' = f then v else dWord D k' a' f' := by
  cases hm : mayA k a f with
  | false => rw [dPut_may hm]; simp
  | true =>
    rcases first_hit D k a f with h | ⟨j, q1, q2, q3⟩
    · rw [dPut_no hm h, dWord_add h]; simp
    · rw [dPut_at hm q1 q2 q3, dWord_set q1 q2 q3]; simp
theorem key_inj {k a f k' a' f' : Int} (h : key k a f = key k' a' f') : k = k' ∧ a = a' ∧ f = f' := by
  simpa [key] using h
theorem mget_set (M : List Int → Option Int) (k a f v k' a' f' : Int) : mget (setKey M (key k a f) (some v)) (key k' a' f') = if k' = k ∧ a' = a ∧ f' = f then v else mget M (key k' a' f') := by
  by_cases h : k' = k ∧ a' = a ∧ f' = f
  · obtain ⟨rfl, rfl, rfl⟩ := h
    simp [mget, setKey]
  · rw [if_neg h]
    have : key k' a' f' ≠ key k a f := fun e => h (key_inj e)
    simp [mget, setKey, this]
theorem mget_put (M : List Int → Option Int) (k a f v k' a' f' : Int) : mget (memPut M k a f v) (key k' a' f') = if mayA k a f = true ∧ k' = k ∧ a' = a ∧ f' = f then v else mget M (key k' a' f') := by
  cases hm : mayA k a f with
  | false => simp [memPut, hm]
  | true => simp only [memPut, hm, mget_set]; simp
theorem memIs_put (M : List Int → Option Int) (k a f v : Int) : memIs M k a f v = mget (memPut M k a f v) (key k a f) := by
  rw [mget_put]
  unfold memIs
  cases hm : mayA k a f <;> simp
theorem casM_put (M : List Int → Option Int) (k a f w v : Int) : casM M k a f w v = if casD M k a f w = true then memPut M k a f v else M := by
  unfold casM
  cases hc : casD M k a f w with
  | false => simp
  | true =>
    have hm : mayA k a f = true := by
      unfold casD at hc
      split at hc
      · exact hc
      · cases hc
    simp [memPut, hm]
theorem casI_eq (M : List Int → Option Int) (k a f w v : Int) : casI M k a f w v = mget (casM M k a f w v) (key k a f) := by
  unfold casI casM
  split
  · rw [mget_set]; simp
  · rfl

/-- Both memories have the same words. -/
def Agr (M : List Int → Option Int) (D : DM) : Prop := ∀ k a f, mget M (key k a f) = dWord D k a f
theorem Agr.put {M : List Int → Option Int} {D : DM} (h : Agr M D) (k a f v : Int) : Agr (memPut M k a f v) (dPut D k a f v) := fun k' a' f' => by
  rw [mget_put, dWord_put, h]
theorem Agr.is {M : List Int → Option Int} {D : DM} (h : Agr M D) (k a f v : Int) : memIs M k a f v = dWord (dPut D k a f v) k a f := by
  rw [memIs_put, h.put]
theorem Agr.casD {M : List Int → Option Int} {D : DM} (h : Agr M D) (k a f w : Int) : Go.Ev.casD M k a f w = dCasD D k a f w := by
  unfold Go.Ev.casD dCasD
  rw [h]
theorem Agr.cas {M : List Int → Option Int} {D : DM} (h : Agr M D) (k a f w v : Int) : Agr (casM M k a f w v) (dCasM D k a f w v) := by
  rw [casM_put, h.casD]
  unfold dCasM
  cases hc : dCasD D k a f w with
  | false => simpa using h
  | true => simpa using h.put k a f v
theorem Agr.casI {M : List Int → Option Int} {D : DM} (h : Agr M D) (k a f w v : Int) : Go.Ev.casI M k a f w v = dWord (dCasM D k a f w v) k a f := by
  rw [casI_eq, h.cas]
theorem Agr.nil : Agr (fun _ => none) ⟨0, fun _ => ⟨0, 0, 0, 0⟩⟩ := fun k a f => by
  rw [dWord_no (fun i hi => absurd hi (Nat.not_lt_zero i))]; rfl

/-- A pair of memories. -/
structure LS where
  c : Int
  k : Int
  a : Int
  f : Int
  w : Int
  i : Int
  d : Bool
def LS.l (x : LS) : List AV := lastL x.c x.k x.a x.f x.w x.i x.d
structure MS where
  M : List Int → Option Int
  st : Int
  L : LS
structure RS where
  D : DM
  st : Int
  L : LS
def mStore (S : MS) (k a f v : Int) : MS := ⟨memPut S.M k a f v, IntKind.i64.wrap (S.st + 1), ⟨2, k, a, f, mget S.M (key k a f), memIs S.M k a f v, false⟩⟩
def mLoad (S : MS) (k a f : Int) : MS := ⟨S.M, IntKind.i64.wrap (S.st + 1), ⟨1, k, a, f, mget S.M (key k a f), mget S.M (key k a f), false⟩⟩
def mCas (S : MS) (k a f w v : Int) : MS := ⟨casM S.M k a f w v, IntKind.i64.wrap (S.st + 1), ⟨3, k, a, f, mget S.M (key k a f), casI S.M k a f w v, casD S.M k a f w⟩⟩
def rStore (S : RS) (k a f v : Int) : RS := ⟨dPut S.D k a f v, IntKind.i64.wrap (S.st + 1), ⟨2, k, a, f, dWord S.D k a f, dWord (dPut S.D k a f v) k a f, false⟩⟩
def rLoad (S : RS) (k a f : Int) : RS := ⟨S.D, IntKind.i64.wrap (S.st + 1), ⟨1, k, a, f, dWord S.D k a f, dWord S.D k a f, false⟩⟩
def rCas (S : RS) (k a f w v : Int) : RS := ⟨dCasM S.D k a f w v, IntKind.i64.wrap (S.st + 1), ⟨3, k, a, f, dWord S.D k a f, dWord (dCasM S.D k a f w v) k a f, dCasD S.D k a f w⟩⟩
structure Both (S : MS) (R : RS) : Prop where
  agr : Agr S.M R.D
  st : S.st = R.st
  L : S.L = R.L
theorem Both.store {S : MS} {R : RS} (h : Both S R) (k a f v : Int) : Both (mStore S k a f v) (rStore R k a f v) :=
  ⟨h.agr.put k a f v, by simp [mStore, rStore, h.st], by simp [mStore, rStore, h.agr k a f, h.agr.is]⟩
theorem Both.load {S : MS} {R : RS} (h : Both S R) (k a f : Int) : Both (mLoad S k a f) (rLoad R k a f) :=
  ⟨h.agr, by simp [mLoad, rLoad, h.st], by simp [mLoad, rLoad, h.agr k a f]⟩
theorem Both.cas {S : MS} {R : RS} (h : Both S R) (k a f w v : Int) : Both (mCas S k a f w v) (rCas R k a f w v) :=
  ⟨h.agr.cas k a f w v, by simp [mCas, rCas, h.st], by simp [mCas, rCas, h.agr k a f, h.agr.casI, h.agr.casD]⟩
def ms0 : MS := ⟨fun _ => none, 0, ⟨0, 0, 0, 0, 0, 0, false⟩⟩
def rs0 : RS := ⟨⟨0, fun _ => ⟨0, 0, 0, 0⟩⟩, 0, ⟨0, 0, 0, 0, 0, 0, false⟩⟩
theorem Both.nil : Both ms0 rs0 := ⟨Agr.nil, rfl, rfl⟩
def msN (W : Nat → Wd) : Nat → MS
  | 0 => ms0
  | n + 1 => mStore (msN W n) (W (0 + n)).k (W (0 + n)).a (W (0 + n)).f (W (0 + n)).v
def rsN (W : Nat → Wd) : Nat → RS
  | 0 => rs0
  | n + 1 => rStore (rsN W n) (W (0 + n)).k (W (0 + n)).a (W (0 + n)).f (W (0 + n)).v
theorem bothN (W : Nat → Wd) : ∀ n, Both (msN W n) (rsN W n)
  | 0 => Both.nil
  | n + 1 => (bothN W n).store ..
theorem rsN_n (W : Nat → Wd) : ∀ n, (rsN W n).D.n ≤ n
  | 0 => Nat.le_refl _
  | n + 1 => by
    have := (dPut_n (rsN W n).D (W (0 + n)).k (W (0 + n)).a (W (0 + n)).f (W (0 + n)).v).1
    have := rsN_n W n
    show (dPut (rsN W n).D _ _ _ _).n ≤ n + 1
    omega
end Go.Ev
