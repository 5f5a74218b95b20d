/-
  EvAux and what follows it.
-/
import Derived.Test.YtmndhjodbnojdaaDoorEvUse
/-
  Plain facts for contracts: searching, counting, numbers.
-/
set_option linter.unusedSimpArgs false
set_option linter.unusedVariables false
namespace Go.Ev

/-- The first place below n at which p holds, else n. -/
def fnd (p : Nat → Bool) : Nat → Nat
  | 0 => 0
  | n + 1 => if fnd p n < n then fnd p n else if p n = true then n else n + 1
theorem fnd_le (p : Nat → Bool) : ∀ n, fnd p n ≤ n
  | 0 => Nat.le_refl _
  | n + 1 => by have := fnd_le p n; simp only [fnd]; split <;> (try split) <;> omega
theorem fnd_none {p : Nat → Bool} : ∀ {n : Nat}, (∀ j, j < n → p j = false) → fnd p n = n
  | 0, _ => rfl
  | n + 1, h => by
    have := fnd_none (p := p) (n := n) (fun j hj => h j (by omega))
    simp [fnd, this, h n (by omega)]
theorem fnd_eq {p : Nat → Bool} {i : Nat} : ∀ {n : Nat}, i < n → p i = true → (∀ j, j < i → p j = false) → fnd p n = i
  | 0, h, _, _ => by omega
  | n + 1, h, hp, hb => by
    by_cases e : i = n
    · subst e
      have := fnd_none hb
      simp [fnd, this, hp]
    · have := fnd_eq (n := n) (by omega) hp hb
      simp [fnd, this]; omega
theorem first_true (p : Nat → Bool) (n : Nat) : (∀ i, i < n → p i = false) ∨ ∃ k, k < n ∧ p k = true ∧ ∀ i, i < k → p i = false := by
  rcases first_false (fun i => !p i) n with h | ⟨k, h1, h2, h3⟩
  · exact .inl (fun i hi => by simpa using h i hi)
  · exact .inr ⟨k, h1, by simpa using h2, fun i hi => by simpa using h3 i hi⟩
theorem fnd_spec {p : Nat → Bool} {n : Nat} (h : fnd p n < n) : p (fnd p n) = true ∧ ∀ j, j < fnd p n → p j = false := by
  rcases first_true p n with h1 | ⟨k, h1, h2, h3⟩
  · rw [fnd_none h1] at h; omega
  · rw [fnd_eq h1 h2 h3]; exact ⟨h2, h3⟩
theorem fnd_no {p : Nat → Bool} {n : Nat} (h : ¬ fnd p n < n) : ∀ j, j < n → p j = false := by
  rcases first_true p n with h1 | ⟨k, h1, h2, h3⟩
  · exact h1
  · rw [fnd_eq h1 h2 h3] at h; omega

/-- What is found at the first place, else another. -/
def srch (p : Nat → Bool) (n : Nat) (v : Nat → Int) (v0 : Int) : Int := if fnd p n < n then v (fnd p n) else v0
def srchB (p : Nat → Bool) (n : Nat) : Bool := decide (fnd p n < n)
theorem srch_at {p : Nat → Bool} {n k : Nat} {v : Nat → Int} {v0 : Int} (h1 : k < n) (h2 : p k = true) (h3 : ∀ i, i < k → p i = false) : srch p n v v0 = v k := by
  unfold srch; rw [fnd_eq h1 h2 h3, if_pos h1]
theorem srch_no {p : Nat → Bool} {n : Nat} {v : Nat → Int} {v0 : Int} (h : ∀ i, i < n → p i = false) : srch p n v v0 = v0 := by
  unfold srch; rw [fnd_none h, if_neg (Nat.lt_irrefl _)]
theorem srchB_at {p : Nat → Bool} {n k : Nat} (h1 : k < n) (h2 : p k = true) (h3 : ∀ i, i < k → p i = false) : srchB p n = true := by
  unfold srchB; rw [fnd_eq h1 h2 h3]; exact decide_eq_true h1
theorem srchB_no {p : Nat → Bool} {n : Nat} (h : ∀ i, i < n → p i = false) : srchB p n = false := by
  unfold srchB; rw [fnd_none h]; exact decide_eq_false (Nat.lt_irrefl _)
theorem srch_congr {p q : Nat → Bool} {n : Nat} {v w : Nat → Int} {v0 : Int} (h : ∀ i, i < n → p i = q i) (hv : ∀ i, i < n → v i = w i) : srch p n v v0 = srch q n w v0 := by
  rcases first_true p n with h1 | ⟨k, h1, h2, h3⟩
  · rw [srch_no h1, srch_no (fun i hi => by rw [← h i hi]; exact h1 i hi)]
  · rw [srch_at h1 h2 h3, srch_at h1 (by rw [← h k h1]; exact h2) (fun i hi => by rw [← h i (by omega)]; exact h3 i hi), hv k h1]

theorem and2_eq (a b : Bool) : and2 a b = (a && b) := by cases a <;> rfl
theorem u64m (x : Int) : IntKind.u64.wrap x = x % 18446744073709551616 := by
  simp [IntKind.wrap, IntKind.signed, IntKind.bits]
theorem u64r (x : Int) : 0 ≤ IntKind.u64.wrap x ∧ IntKind.u64.wrap x < 18446744073709551616 := by rw [u64m]; omega
theorem u64w {x : Int} (h0 : 0 ≤ x) (h1 : x < 18446744073709551616) : IntKind.u64.wrap x = x := by rw [u64m]; omega
theorem u8m (x : Int) : IntKind.u8.wrap x = x % 256 := by
  simp [IntKind.wrap, IntKind.signed, IntKind.bits]
theorem i64w {x : Int} (h0 : -9223372036854775808 ≤ x) (h1 : x < 9223372036854775808) : IntKind.i64.wrap x = x := by
  show (if (true && decide (x % 18446744073709551616 ≥ (9223372036854775808 : Int))) = true then x % 18446744073709551616 - 18446744073709551616 else x % 18446744073709551616) = x
  by_cases h : x % 18446744073709551616 ≥ 9223372036854775808
  · rw [if_pos (by simpa using h)]; omega
  · rw [if_neg (by simpa using h)]; omega

/-- A law's ways. -/
def Runs (run : List Hint → Option (AV × List Prop × Bool)) : Prop := ∃ h v ob, run h = some (v, ob, true) ∧ isTrue v ∧ ∀ p ∈ ob, p
theorem goodB {P : Program} (h1 : P.follows .mixedOrders = true) (h2 : P.funcs.toList.all (fun fn => !fn.body.isSome || !(fn.name == "runtime.NumGoroutine")) = true) : Good P where
  mixed := h1
  names := fun f fn h h3 => by
    have hm : fn ∈ P.funcs.toList := by
      obtain ⟨hlt, rfl⟩ := Array.getElem?_eq_some_iff.1 h
      simp
    have := List.all_eq_true.1 h2 fn hm
    simpa [h3] using this
theorem eq_no {b : Bool} : ((b == b) == false) = false := by cases b <;> rfl
theorem avI_s (k : IntKind) (n : Int) : avInt (.sym k n) = n := rfl
theorem avI_i (k : IntKind) (n : Int) : avInt (.int k n) = n := rfl
theorem avB_s (b : Bool) : avBool (.symb b) = b := rfl
theorem avB_b (b : Bool) : avBool (.bool b) = b := rfl
theorem u8_range {n : Int} (h : (Lit.int .u8 n).wf = true) : 0 ≤ n ∧ n < 256 := by
  simp [Lit.wf, IntKind.min, IntKind.max, IntKind.bits, IntKind.signed] at h; omega
theorem u16_range {n : Int} (h : (Lit.int .u16 n).wf = true) : 0 ≤ n ∧ n < 65536 := by
  simp [Lit.wf, IntKind.min, IntKind.max, IntKind.bits, IntKind.signed] at h; omega
theorem u32_range {n : Int} (h : (Lit.int .u32 n).wf = true) : 0 ≤ n ∧ n < 4294967296 := by
  simp [Lit.wf, IntKind.min, IntKind.max, IntKind.bits, IntKind.signed] at h; omega
theorem i64_range {n : Int} (h : (Lit.int .i64 n).wf = true) : -9223372036854775808 ≤ n ∧ n < 9223372036854775808 := by
  simp [Lit.wf, IntKind.min, IntKind.max, IntKind.bits, IntKind.signed] at h; omega
end Go.Ev

/-
  An environment out of contracts, some of which a hint chooses.
-/
set_option linter.unusedSimpArgs false
set_option linter.unusedVariables false
namespace Go.Ev
abbrev SP := List AV → Hp → Option (AV × Hp)
def SPOk (P : Program) (f : FuncId) (g : SP) : Prop := ∀ args h v h', g args h = some (v, h') → CaOk P f args h v h'
abbrev SpecOk (P : Program) (f : FuncId) (s : LSpec) : Prop := ∀ la lh R, s la lh = some R → LocOk P f la lh R
def locSP (s : LSpec) : SP := applyLoc (nrm s)
theorem locSP_ok {P : Program} {f : FuncId} {s : LSpec} (h : SpecOk P f s) : SPOk P f (locSP s) := fun _ _ _ _ e => applyLoc_ok (nrm_ok h) e
/-- As the evaluator has it, closed values as they are. -/
def rawSP (s : LSpec) : SP := applyLoc s
theorem rawSP_ok {P : Program} {f : FuncId} {s : LSpec} (h : SpecOk P f s) : SPOk P f (rawSP s) := fun _ _ _ _ e => applyLoc_ok h e
def altSP (s t : LSpec) : SP := fun args h => match h.hints with
  | .b c :: r => match c with
    | true => applyLoc (nrm s) args { h with hints := r }
    | false => applyLoc (nrm t) args { h with hints := r }
  | _ => none
theorem altSP_ok {P : Program} {f : FuncId} {s t : LSpec} (hs : SpecOk P f s) (ht : SpecOk P f t) : SPOk P f (altSP s t) := by
  intro args h v h' e
  unfold altSP at e
  split at e
  · rename_i c r hr
    split at e
    · have o := applyLoc_ok (nrm_ok hs) e
      exact ⟨⟨o.mono.ob, o.mono.nxt, o.mono.hi, o.mono.wr⟩, fun ho ρ w hr hf hg xs hx => (o.wp ho ρ w hr hf hg xs hx).mono fun e w' ⟨x, ρ', a, b, c⟩ => ⟨x, ρ', a, b, ⟨c.le, c.new, c.rep, c.fr, c.own⟩⟩⟩
    · have o := applyLoc_ok (nrm_ok ht) e
      exact ⟨⟨o.mono.ob, o.mono.nxt, o.mono.hi, o.mono.wr⟩, fun ho ρ w hr hf hg xs hx => (o.wp ho ρ w hr hf hg xs hx).mono fun e w' ⟨x, ρ', a, b, c⟩ => ⟨x, ρ', a, b, ⟨c.le, c.new, c.rep, c.fr, c.own⟩⟩⟩
  · cases e
def orSP (a b : SP) : SP := fun args h => match a args h with
  | some x => some x
  | none => b args h
theorem orSP_ok {P : Program} {f : FuncId} {a b : SP} (ha : SPOk P f a) (hb : SPOk P f b) : SPOk P f (orSP a b) := by
  intro args h v h' e
  unfold orSP at e
  split at e
  · rename_i x hx; cases e; exact ha _ _ _ _ hx
  · exact hb _ _ _ _ e
def spOf : List (FuncId × SP) → FuncId → Option SP
  | [], _ => none
  | (g, s) :: r, f => match Nat.beq g f with
    | true => some s
    | false => spOf r f
def SPsOk (P : Program) : List (FuncId × SP) → Prop
  | [] => True
  | (g, s) :: r => SPOk P g s ∧ SPsOk P r
theorem spOf_ok {P : Program} : ∀ (l : List (FuncId × SP)), SPsOk P l → ∀ f g, spOf l f = some g → SPOk P f g
  | [], _, f, g, e => by cases e
  | (q, s) :: r, ok, f, g, e => by
    simp only [spOf] at e
    split at e
    · rename_i hq
      have hq := Nat.eq_of_beq_eq_true hq; subst hq
      cases e
      exact ok.1
    · exact spOf_ok r ok.2 f g e
def envG (P : Program) (l : List (FuncId × SP)) : Env := ⟨P, spOf l, LoopHolds P⟩
theorem envG_ok {P : Program} (G : Good P) {l : List (FuncId × SP)} (ok : SPsOk P l) : EnvOk (envG P l) :=
  ⟨G, fun _ _ _ _ h => h, spOf_ok l ok⟩
end Go.Ev

/-
  Memories: the program's (a map), the document's (a list of words): definitions and plain facts.
-/
set_option linter.unusedSimpArgs false
set_option linter.unusedVariables false
namespace Go.Ev

structure Wd where
  k : Int
  a : Int
  f : Int
  v : Int
def wSh : List CK := [.int .u8, .int .i64, .int .i64, .int .u64]
def wdOf (r : Nat → AV) : Wd := ⟨avInt (r 0), avInt (r 1), avInt (r 2), avInt (r 3)⟩
def wdR (w : Wd) : Nat → AV := fun j => match j with
  | 0 => .sym .u8 w.k
  | 1 => .sym .i64 w.a
  | 2 => .sym .i64 w.f
  | 3 => .sym .u64 w.v
  | _ => .top
def wdF (W : Nat → Wd) : Nat → Nat → AV := fun i j => wdR (W i) j
theorem row_wd {f : Nat → AV} {w : Wd} (h : wdOf f = w) : rowOb wSh 0 f (wdR w) := by
  subst h; exact ⟨rfl, rfl, rfl, rfl, trivial⟩

/-- The kind's numbers: how many At, how many fields. -/
def kAt (k : Int) : Int := if k = 6 then 32 else if k = 7 then 4 else if k = 8 then 16 else if k = 9 then 256 else if k = 10 then 9 else 1
def kFl (k : Int) : Int := if k = 6 then 2 else if k = 8 then 10 else if k = 9 then 8 else if k = 11 then 2 else 1
def mayA (k a f : Int) : Bool := decide (k ≤ 11 ∧ 0 ≤ a ∧ a < kAt k ∧ 0 ≤ f ∧ f < kFl k)
def mayR (k a f : Int) : LR := ⟨0, .symb (mayA k a f), [], 0, [], [0 ≤ k]⟩
def key (k a f : Int) : List Int := [k, a, f]
def memPut (M : List Int → Option Int) (k a f v : Int) : List Int → Option Int := match mayA k a f with
  | true => setKey M (key k a f) (some v)
  | false => M
def memIs (M : List Int → Option Int) (k a f v : Int) : Int := match mayA k a f with
  | true => v
  | false => mget M (key k a f)
theorem setKey2 (M : List Int → Option Int) (k : List Int) (a b : Option Int) : setKey (setKey M k a) k b = setKey M k b := by
  funext q
  simp only [setKey]
  split <;> rfl
def casD (M : List Int → Option Int) (k a f w : Int) : Bool := match mget M (key k a f) == w with
  | true => mayA k a f
  | false => false
def casM (M : List Int → Option Int) (k a f w v : Int) : List Int → Option Int := match casD M k a f w with
  | true => setKey M (key k a f) (some v)
  | false => M
def casI (M : List Int → Option Int) (k a f w v : Int) : Int := match casD M k a f w with
  | true => v
  | false => mget M (key k a f)
def lastL (c k a f w i : Int) (d : Bool) : List AV := [.sym .u8 c, .sym .u8 k, .sym .i64 a, .sym .i64 f, .sym .u64 w, .sym .u64 i, .symb d]

/-! ### the document's memory -/
structure DM where
  n : Nat
  W : Nat → Wd
def dOf (n : Nat) (g : Nat → Nat → AV) : DM := ⟨n, fun i => wdOf (g i)⟩
def hit (w : Wd) (k a f : Int) : Bool := and2 (w.k == k) (and2 (w.a == a) (and2 (w.f == f) true))
def dAt (D : DM) (k a f : Int) : Nat := fnd (fun i => hit (D.W (0 + i)) k a f) D.n
def dWord (D : DM) (k a f : Int) : Int := srch (fun i => hit (D.W (0 + i)) k a f) D.n (fun i => (D.W (0 + i)).v) 0
def dSet (D : DM) (j : Nat) (v : Int) : DM := ⟨D.n, fun i => if i = j then ⟨(D.W i).k, (D.W i).a, (D.W i).f, v⟩ else D.W i⟩
def dAdd (D : DM) (k a f v : Int) : DM := ⟨D.n + 1, fun i => if i < D.n then D.W i else ⟨k, a, f, v⟩⟩
def dPut (D : DM) (k a f v : Int) : DM := match mayA k a f with
  | false => D
  | true => match Nat.blt (dAt D k a f) D.n with
    | true => dSet D (dAt D k a f) v
    | false => dAdd D k a f v
def dCasD (D : DM) (k a f w : Int) : Bool := match dWord D k a f == w with
  | true => mayA k a f
  | false => false
def dCasM (D : DM) (k a f w v : Int) : DM := match dCasD D k a f w with
  | true => dPut D k a f v
  | false => D

theorem hit_iff {w : Wd} {k a f : Int} : hit w k a f = true ↔ w.k = k ∧ w.a = a ∧ w.f = f := by
  simp [hit, and2_eq]
theorem dOf_wdF (D : DM) : dOf D.n (wdF D.W) = D := rfl
theorem dPut_may {D : DM} {k a f v : Int} (h : mayA k a f = false) : dPut D k a f v = D := by simp [dPut, h]
theorem dPut_at {D : DM} {k a f v : Int} {j : Nat} (h : mayA k a f = true) (hj : j < D.n) (h2 : hit (D.W (0 + j)) k a f = true) (h3 : ∀ i, i < j → hit (D.W (0 + i)) k a f = false) : dPut D k a f v = dSet D j v := by
  have e : dAt D k a f = j := fnd_eq hj h2 h3
  have b : Nat.blt j D.n = true := by simpa [Nat.blt_eq] using hj
  simp only [dPut, h, e, b]
theorem dPut_no {D : DM} {k a f v : Int} (h : mayA k a f = true) (h3 : ∀ i, i < D.n → hit (D.W (0 + i)) k a f = false) : dPut D k a f v = dAdd D k a f v := by
  have e : dAt D k a f = D.n := fnd_none h3
  have b : Nat.blt D.n D.n = false := by
    cases hb : Nat.blt D.n D.n with
    | false => rfl
    | true => simp [Nat.blt_eq] at hb
  simp only [dPut, h, e, b]
theorem dPut_n (D : DM) (k a f v : Int) : (dPut D k a f v).n ≤ D.n + 1 ∧ D.n ≤ (dPut D k a f v).n := by
  unfold dPut
  split
  · exact ⟨by omega, by omega⟩
  · split
    · exact ⟨by simp [dSet], by simp [dSet]⟩
    · exact ⟨by simp [dAdd], by simp [dAdd]⟩

theorem dWord_at {D : DM} {k a f : Int} {j : Nat} (hj : j < D.n) (h2 : hit (D.W (0 + j)) k a f = true) (h3 : ∀ i, i < j → hit (D.W (0 + i)) k a f = false) : dWord D k a f = (D.W (0 + j)).v := srch_at hj h2 h3
theorem dWord_no {D : DM} {k a f : Int} (h3 : ∀ i, i < D.n → hit (D.W (0 + i)) k a f = false) : dWord D k a f = 0 := srch_no h3
theorem first_hit (D : DM) (k a f : Int) : (∀ i, i < D.n → hit (D.W (0 + i)) k a f = false) ∨ ∃ j, j < D.n ∧ hit (D.W (0 + j)) k a f = true ∧ ∀ i, i < j → hit (D.W (0 + i)) k a f = false := first_true _ _

theorem dWord_set {D : DM} {k a f v k' a' f' : Int} {j : Nat} (hj : j < D.n) (h2 : hit (D.W (0 + j)) k a f = true) (h3 : ∀ i, i < j → hit (D.W (0 + i)) k a f = false) :
    dWord (dSet D j v) k' a' f' = if k' = k ∧ a' = a ∧ f' = f then v else dWord D k' a' f' := by
  have hh : ∀ i, hit ((dSet D j v).W (0 + i)) k' a' f' = hit (D.W (0 + i)) k' a' f' := by
    intro i
    simp only [dSet, Nat.zero_add]
    split <;> rfl
  obtain ⟨e1, e2, e3⟩ := hit_iff.1 h2
  by_cases hk : k' = k ∧ a' = a ∧ f' = f
  · rw [if_pos hk]
    obtain ⟨rfl, rfl, rfl⟩ := hk
    rw [dWord_at (D := dSet D j v) hj (by rw [hh]; exact h2) (fun i hi => by rw [hh]; exact h3 i hi)]
    simp [dSet]
  · rw [if_neg hk]
    rcases first_hit D k' a' f' with h | ⟨i, q1, q2, q3⟩
    · rw [dWord_no h, dWord_no (D := dSet D j v) (fun i hi => by rw [hh]; exact h i hi)]
    · rw [dWord_at q1 q2 q3, dWord_at (D := dSet D j v) q1 (by rw [hh]; exact q2) (fun l hl => by rw [hh]; exact q3 l hl)]
      have : i ≠ j := fun e => by
        subst e
        obtain ⟨z1, z2, z3⟩ := hit_iff.1 q2
        exact hk ⟨z1.symm.trans e1, z2.symm.trans e2, z3.symm.trans e3⟩
      simp [dSet, this]
theorem dWord_add {D : DM} {k a f v k' a' f' : Int} (h3 : ∀ i, i < D.n → hit (D.W (0 + i)) k a f = false) :
    dWord (dAdd D k a f v) k' a' f' = if k' = k ∧ a' = a ∧ f' = f then v else dWord D k' a' f' := by
  have hh : ∀ i, i < D.n → (dAdd D k a f v).W (0 + i) = D.W (0 + i) := by
    intro i hi
    simp only [dAdd, Nat.zero_add]
    rw [if_pos hi]
  have hl : (dAdd D k a f v).W (0 + D.n) = ⟨k, a, f, v⟩ := by simp [dAdd]
  by_cases hk : k' = k ∧ a' = a ∧ f' = f
  · rw [if_pos hk]
    obtain ⟨rfl, rfl, rfl⟩ := hk
    rw [dWord_at (D := dAdd D k' a' f' v) (j := D.n) (by simp [dAdd]) (by rw [hl]; exact hit_iff.2 ⟨rfl, rfl, rfl⟩) (fun i hi => by rw [hh i hi]; exact h3 i hi), hl]
  · rw [if_neg hk]
    rcases first_hit D k' a' f' with h | ⟨i, q1, q2, q3⟩
    · rw [dWord_no h, dWord_no (D := dAdd D k a f v) (fun i hi => by
        by_cases e : i < D.n
        · rw [hh i e]; exact h i e
        · have : i = D.n := by simp [dAdd] at hi; omega
          subst this
          rw [hl]
          cases hq : hit (⟨k, a, f, v⟩ : Wd) k' a' f' with
          | false => rfl
          | true => obtain ⟨z1, z2, z3⟩ := hit_iff.1 hq; exact (hk ⟨z1.symm, z2.symm, z3.symm⟩).elim)]
    · rw [dWord_at q1 q2 q3, dWord_at (D := dAdd D k a f v) (j := i) (by simp [dAdd]; omega) (by rw [hh i q1]; exact q2) (fun l hl => by rw [hh l (by omega)]; exact q3 l hl), hh i q1]
theorem dWord_put (D : DM) (k a f v k' a' f' : Int) : dWord (dPut D k a f v) k' a' f' = if mayA k a f = true ∧ k' = k ∧ a' = a ∧ f' = f then v else dWord D k' a' f' := by
  cases hm : mayA k a f with
  | false => rw [dPut_may hm]; simp
  | true =>
    rcases first_hit D k a f with h | ⟨j, q1, q2, q3⟩
    · rw [dPut_no hm h, dWord_add h]; simp
    · rw [dPut_at hm q1 q2 q3, dWord_set q1 q2 q3]; simp
theorem key_inj {k a f k' a' f' : Int} (h : key k a f = key k' a' f') : k = k' ∧ a = a' ∧ f = f' := by
  simpa [key] using h
theorem mget_set (M : List Int → Option Int) (k a f v k' a' f' : Int) : mget (setKey M (key k a f) (some v)) (key k' a' f') = if k' = k ∧ a' = a ∧ f' = f then v else mget M (key k' a' f') := by
  by_cases h : k' = k ∧ a' = a ∧ f' = f
  · obtain ⟨rfl, rfl, rfl⟩ := h
    simp [mget, setKey]
  · rw [if_neg h]
    have : key k' a' f' ≠ key k a f := fun e => h (key_inj e)
    simp [mget, setKey, this]
theorem mget_put (M : List Int → Option Int) (k a f v k' a' f' : Int) : mget (memPut M k a f v) (key k' a' f') = if mayA k a f = true ∧ k' = k ∧ a' = a ∧ f' = f then v else mget M (key k' a' f') := by
  cases hm : mayA k a f with
  | false => simp [memPut, hm]
  | true => simp only [memPut, hm, mget_set]; simp
theorem memIs_put (M : List Int → Option Int) (k a f v : Int) : memIs M k a f v = mget (memPut M k a f v) (key k a f) := by
  rw [mget_put]
  unfold memIs
  cases hm : mayA k a f <;> simp
theorem casM_put (M : List Int → Option Int) (k a f w v : Int) : casM M k a f w v = if casD M k a f w = true then memPut M k a f v else M := by
  unfold casM
  cases hc : casD M k a f w with
  | false => simp
  | true =>
    have hm : mayA k a f = true := by
      unfold casD at hc
      split at hc
      · exact hc
      · cases hc
    simp [memPut, hm]
theorem casI_eq (M : List Int → Option Int) (k a f w v : Int) : casI M k a f w v = mget (casM M k a f w v) (key k a f) := by
  unfold casI casM
  split
  · rw [mget_set]; simp
  · rfl

/-- Both memories have the same words. -/
def Agr (M : List Int → Option Int) (D : DM) : Prop := ∀ k a f, mget M (key k a f) = dWord D k a f
theorem Agr.put {M : List Int → Option Int} {D : DM} (h : Agr M D) (k a f v : Int) : Agr (memPut M k a f v) (dPut D k a f v) := fun k' a' f' => by
  rw [mget_put, dWord_put, h]
theorem Agr.is {M : List Int → Option Int} {D : DM} (h : Agr M D) (k a f v : Int) : memIs M k a f v = dWord (dPut D k a f v) k a f := by
  rw [memIs_put, h.put]
theorem Agr.casD {M : List Int → Option Int} {D : DM} (h : Agr M D) (k a f w : Int) : Go.Ev.casD M k a f w = dCasD D k a f w := by
  unfold Go.Ev.casD dCasD
  rw [h]
theorem Agr.cas {M : List Int → Option Int} {D : DM} (h : Agr M D) (k a f w v : Int) : Agr (casM M k a f w v) (dCasM D k a f w v) := by
  rw [casM_put, h.casD]
  unfold dCasM
  cases hc : dCasD D k a f w with
  | false => simpa using h
  | true => simpa using h.put k a f v
theorem Agr.casI {M : List Int → Option Int} {D : DM} (h : Agr M D) (k a f w v : Int) : Go.Ev.casI M k a f w v = dWord (dCasM D k a f w v) k a f := by
  rw [casI_eq, h.cas]
theorem Agr.nil : Agr (fun _ => none) ⟨0, fun _ => ⟨0, 0, 0, 0⟩⟩ := fun k a f => by
  rw [dWord_no (fun i hi => absurd hi (Nat.not_lt_zero i))]; rfl

/-- A pair of memories. -/
structure LS where
  c : Int
  k : Int
  a : Int
  f : Int
  w : Int
  i : Int
  d : Bool
def LS.l (x : LS) : List AV := lastL x.c x.k x.a x.f x.w x.i x.d
structure MS where
  M : List Int → Option Int
  st : Int
  L : LS
structure RS where
  D : DM
  st : Int
  L : LS
def mStore (S : MS) (k a f v : Int) : MS := ⟨memPut S.M k a f v, IntKind.i64.wrap (S.st + 1), ⟨2, k, a, f, mget S.M (key k a f), memIs S.M k a f v, false⟩⟩
def mLoad (S : MS) (k a f : Int) : MS := ⟨S.M, IntKind.i64.wrap (S.st + 1), ⟨1, k, a, f, mget S.M (key k a f), mget S.M (key k a f), false⟩⟩
def mCas (S : MS) (k a f w v : Int) : MS := ⟨casM S.M k a f w v, IntKind.i64.wrap (S.st + 1), ⟨3, k, a, f, mget S.M (key k a f), casI S.M k a f w v, casD S.M k a f w⟩⟩
def rStore (S : RS) (k a f v : Int) : RS := ⟨dPut S.D k a f v, IntKind.i64.wrap (S.st + 1), ⟨2, k, a, f, dWord S.D k a f, dWord (dPut S.D k a f v) k a f, false⟩⟩
def rLoad (S : RS) (k a f : Int) : RS := ⟨S.D, IntKind.i64.wrap (S.st + 1), ⟨1, k, a, f, dWord S.D k a f, dWord S.D k a f, false⟩⟩
def rCas (S : RS) (k a f w v : Int) : RS := ⟨dCasM S.D k a f w v, IntKind.i64.wrap (S.st + 1), ⟨3, k, a, f, dWord S.D k a f, dWord (dCasM S.D k a f w v) k a f, dCasD S.D k a f w⟩⟩
structure Both (S : MS) (R : RS) : Prop where
  agr : Agr S.M R.D
  st : S.st = R.st
  L : S.L = R.L
theorem Both.store {S : MS} {R : RS} (h : Both S R) (k a f v : Int) : Both (mStore S k a f v) (rStore R k a f v) :=
  ⟨h.agr.put k a f v, by simp [mStore, rStore, h.st], by simp [mStore, rStore, h.agr k a f, h.agr.is]⟩
theorem Both.load {S : MS} {R : RS} (h : Both S R) (k a f : Int) : Both (mLoad S k a f) (rLoad R k a f) :=
  ⟨h.agr, by simp [mLoad, rLoad, h.st], by simp [mLoad, rLoad, h.agr k a f]⟩
theorem Both.cas {S : MS} {R : RS} (h : Both S R) (k a f w v : Int) : Both (mCas S k a f w v) (rCas R k a f w v) :=
  ⟨h.agr.cas k a f w v, by simp [mCas, rCas, h.st], by simp [mCas, rCas, h.agr k a f, h.agr.casI, h.agr.casD]⟩
def ms0 : MS := ⟨fun _ => none, 0, ⟨0, 0, 0, 0, 0, 0, false⟩⟩
def rs0 : RS := ⟨⟨0, fun _ => ⟨0, 0, 0, 0⟩⟩, 0, ⟨0, 0, 0, 0, 0, 0, false⟩⟩
theorem Both.nil : Both ms0 rs0 := ⟨Agr.nil, rfl, rfl⟩
def msN (W : Nat → Wd) : Nat → MS
  | 0 => ms0
  | n + 1 => mStore (msN W n) (W (0 + n)).k (W (0 + n)).a (W (0 + n)).f (W (0 + n)).v
def rsN (W : Nat → Wd) : Nat → RS
  | 0 => rs0
  | n + 1 => rStore (rsN W n) (W (0 + n)).k (W (0 + n)).a (W (0 + n)).f (W (0 + n)).v
theorem bothN (W : Nat → Wd) : ∀ n, Both (msN W n) (rsN W n)
  | 0 => Both.nil
  | n + 1 => (bothN W n).store ..
theorem rsN_n (W : Nat → Wd) : ∀ n, (rsN W n).D.n ≤ n
  | 0 => Nat.le_refl _
  | n + 1 => by
    have := (dPut_n (rsN W n).D (W (0 + n)).k (W (0 + n)).a (W (0 + n)).f (W (0 + n)).v).1
    have := rsN_n W n
    show (dPut (rsN W n).D _ _ _ _).n ≤ n + 1
    omega
end Go.Ev

/-
  The ends of laws: what is handed in, tables that are listed.
-/
set_option linter.unusedSimpArgs false
set_option linter.unusedVariables false
namespace Go.Ev
theorem rep_nil {P : Program} {W : World} {ls : List (Nat × Loc)} {tabs : List (Nat × List Value)} : ∀ n o, get ([] : List (Nat × AO)) n = some o → o.ro = true ∧ ∃ l, get ls n = some l ∧ ObjRep P (inpT ls tabs) W l o := fun n o e => by simp [get] at e
theorem rep_cons {P : Program} {W : World} {ls : List (Nat × Loc)} {tabs : List (Nat × List Value)} {heap : List (Nat × AO)} {m : Nat} {L : Loc} {x : AO} (ho : x.ro = true) (hl : get ls m = some L) (h : ∀ ρ, ObjRep P ρ W L x)
    (hr : ∀ n o, get heap n = some o → o.ro = true ∧ ∃ l, get ls n = some l ∧ ObjRep P (inpT ls tabs) W l o) : ∀ n o, get ((m, x) :: heap) n = some o → o.ro = true ∧ ∃ l, get ls n = some l ∧ ObjRep P (inpT ls tabs) W l o := by
  intro n o e
  simp only [get] at e
  split at e
  · rename_i hb
    have hb := Nat.eq_of_beq_eq_true hb
    subst hb
    cases e
    exact ⟨ho, L, hl, h _⟩
  · exact hr n o e
end Go.Ev

/-
  Contracts of functions that read a table alone: plain values in, plain values out.
-/
set_option linter.unusedSimpArgs false
set_option linter.unusedVariables false
namespace Go.Ev
def TabIs (vs : List Value) (F : Nat → Nat → AV) : Prop := ∀ j, j < vs.length → F 0 j = tabF vs 0 j
theorem tabIs_self (vs : List Value) : TabIs vs (tabF vs) := fun _ _ => rfl
def allScalar : List AV → Bool
  | [] => true
  | x :: r => match scalar x with
    | true => allScalar r
    | false => false
def flatV : AV → Bool
  | .agg l => allScalar l
  | .tup l => allScalar l
  | v => scalar v
def allFlat : List AV → Bool
  | [] => true
  | x :: r => match flatV x with
    | true => allFlat r
    | false => false
theorem den_scalar {v : AV} (h : scalar v = true) (ρ ρ' : Ren) : den ρ v = den ρ' v := by
  unfold scalar at h
  split at h <;> first | (cases h; done) | simp [den, denL]
theorem denL_scalar : ∀ {l : List AV}, allScalar l = true → ∀ (ρ ρ' : Ren), denL ρ l = denL ρ' l
  | [], _, _, _ => rfl
  | x :: r, h, ρ, ρ' => by
    unfold allScalar at h
    split at h
    · rename_i hx
      simp only [denL, den_scalar hx ρ ρ', denL_scalar h ρ ρ']
    · cases h
theorem den_flat {v : AV} (h : flatV v = true) (ρ ρ' : Ren) : den ρ v = den ρ' v := by
  unfold flatV at h
  split at h
  · simp only [den, denL_scalar h ρ ρ']
  · simp only [den, denL_scalar h ρ ρ']
  · exact den_scalar h ρ ρ'
theorem denL_flat : ∀ {l : List AV}, allFlat l = true → ∀ (ρ ρ' : Ren), denL ρ l = denL ρ' l
  | [], _, _, _ => rfl
  | x :: r, h, ρ, ρ' => by
    unfold allFlat at h
    split at h
    · rename_i hx
      simp only [denL, den_flat hx ρ ρ', denL_flat h ρ ρ']
    · cases h
theorem relS_flat {v : AV} (h : flatV v = true) {ρ ρ' : Ren} {x : Value} (r : relS ρ v x) : relS ρ' v x :=
  r.imp id (fun e => by rw [den_flat h ρ' ρ]; exact e)

/-- A call that reads one table, and changes nothing. -/
def TabPure (P : Program) (f : FuncId) (la : List AV) (v : AV) (ob : List Prop) (g : Nat) (vs : List Value) : Prop :=
  ∀ ρ w, (∀ p ∈ ob, p) → HeapRep P ρ [(gnm g, tabAO vs)] w → Fresh ρ 0 (gnm 0) → GOk ρ → ∀ xs, denL ρ la = some xs →
    Calls P f xs.toArray w fun e w' => ∃ x, e = .returned x ∧ relS ρ v x ∧ Fr w w' (fun _ => False)

theorem tabPure_of_loc {P : Program} {f : FuncId} {la : List AV} {v : AV} {ob : List Prop} {g : Nat} {vs : List Value} (hv : flatV v = true)
    (h : LocOk P f la [(gnm g, tabAO vs)] ⟨0, v, [(gnm g, tabAO vs)], 0, [], ob⟩) : TabPure P f la v ob g vs := by
  intro ρ w hob hr hf hg xs hx
  refine (h ρ w hob hr (fun n h1 h2 => hf n (Nat.zero_le _) h2) hg xs hx).mono fun e w' ⟨x, ρ', he, hx, st⟩ => ⟨x, he, relS_flat hv hx, ?_⟩
  exact st.fr.mono (fun b ⟨m, hm, _⟩ => by cases hm)

theorem tabPure_closed {E : Env} (hE : EnvOk E) {fuel f g : Nat} {vs : List Value} {v : AV} (hv : flatV v = true)
    (h : (callF E fuel f [] ⟨[(gnm g, tabAO vs)], 0, gnm 0, [], [], [], true⟩).map (fun x => (x.1, x.2.ob)) = some (v, [])) : TabPure E.P f [] v [] g vs := by
  intro ρ w hob hr hf hg xs hx
  simp [denL] at hx
  subst hx
  cases hc : callF E fuel f [] ⟨[(gnm g, tabAO vs)], 0, gnm 0, [], [], [], true⟩ with
  | none => rw [hc] at h; cases h
  | some y =>
    rw [hc] at h
    simp only [Option.map_some, Option.some.injEq, Prod.mk.injEq] at h
    obtain ⟨v', h1⟩ := y
    obtain ⟨rfl, h2⟩ := h
    have := ((all_ok hE fuel).ca f [] _ _ h1 hc).wp (by intro p hp; rw [h2] at hp; cases hp) ρ w hr hf hg [] rfl
    refine this.mono fun e w' ⟨x, ρ', he, hx, st⟩ => ⟨x, he, relS_flat hv hx, ?_⟩
    refine ⟨st.fr.size, fun b hb hn => st.fr.same b hb (fun ⟨m, hm, o, l, e, ero, _⟩ => ?_), st.fr.tape, st.fr.os, st.fr.output⟩
    simp only [get] at e
    split at e
    · cases e; cases ero
    · cases e

theorem tabPure_true {P : Program} {f : FuncId} {la : List AV} {ob : List Prop} {g : Nat} {vs : List Value} {v : AV} (hv : isTrue v) (h : TabPure P f la v ob g vs) : TabPure P f la (.bool true) ob g vs := by
  intro ρ w hob hr hf hg xs hx
  refine (h ρ w hob hr hf hg xs hx).mono fun e w' ⟨x, he, hx, st⟩ => ⟨x, he, ?_, st⟩
  rcases hv with rfl | rfl
  · exact hx
  · exact hx.imp (fun e => by cases e) (fun e => by simpa [den] using e)

theorem arr_tab {P : Program} {ρ ρ' : Ren} {w : World} {l : Loc} {vs : List Value} {F : Nat → Nat → AV} (hp : plainB vs = true) (hF : TabIs vs F) (ho : ObjRep P ρ w l (.arr vs.length (vs.map kindOfV) true 1 F)) : ObjRep P ρ' w l (tabAO vs) := by
  obtain ⟨q1, q2, q3, q4, q5⟩ := ho
  refine ⟨q1, q2, q3, q4, fun hcap => ?_⟩
  obtain ⟨c, t, fr, r1, r2, r3, r4⟩ := q5 hcap
  refine ⟨c, t, fr, r1, r2, r3, fun i hi j k hj => ?_⟩
  obtain rfl : i = 0 := by omega
  have hlt : j < vs.length := by
    have := (List.getElem?_eq_some_iff.1 hj).1
    simpa using this
  obtain ⟨s1, x, s2, s3⟩ := r4 0 hi j k hj
  rw [hF j hlt] at s1 s3
  refine ⟨s1, x, s2, ?_⟩
  have hv : vs[j]? = some vs[j] := List.getElem?_eq_getElem hlt
  have e : tabF vs 0 j = ofVal vs[j] := by simp [tabF, nth_get, hv]
  rw [e] at s3 ⊢
  rcases plainB_get vs hp j _ hv with ⟨k, n, hk⟩ | ⟨b, hk⟩ <;> (rw [hk] at s3 ⊢; simpa [ofVal, cellOf, den] using s3)

/-- .. as a contract, whatever else lies there. -/
def tabSP (g : Nat) (vs : List Value) (s : List AV → Option (AV × List Prop)) : SP := fun args h => match get h.heap (gnm g), s (nrmL args) with
  | some (.arr n sh ro len F), some (v, ob) => match Nat.beq n vs.length && (shBeq sh (vs.map kindOfV) && (ro && (Nat.beq len 1 && (allFlat (nrmL args) && flatV v)))) with
    | true => some (v, ⟨h.heap, h.nxt, h.hi, h.hints, TabIs vs F :: (ob ++ h.ob), h.wr, h.auto⟩)
    | false => none
  | _, _ => none

theorem tabSP_ok {P : Program} {f : FuncId} {g : Nat} {vs : List Value} {s : List AV → Option (AV × List Prop)} (hp : plainB vs = true) (H : ∀ la v ob, s la = some (v, ob) → TabPure P f la v ob g vs) : SPOk P f (tabSP g vs s) := by
  intro args h v h' e
  unfold tabSP at e
  split at e
  case h_2 => cases e
  rename_i n sh ro len F v1 ob hgt hs
  split at e
  case h_2 => cases e
  rename_i hb
  cases e
  simp only [Bool.and_eq_true] at hb
  obtain ⟨e1, e2, e3, e4, e5, e6⟩ := hb
  have e1 := Nat.eq_of_beq_eq_true e1; subst e1
  have e2 := shBeq_eq e2; subst e2
  subst e3
  have e4 := Nat.eq_of_beq_eq_true e4; subst e4
  refine ⟨⟨fun p hp => List.mem_cons_of_mem _ (List.mem_append_right _ hp), Nat.le_refl _, rfl, fun n hn => hn⟩, fun ho ρ w hr hf hG xs hx => ?_⟩
  have hF : TabIs vs F := ho _ (List.mem_cons_self ..)
  have hob : ∀ p ∈ ob, p := fun p hp => ho p (List.mem_cons_of_mem _ (List.mem_append_left _ hp))
  obtain ⟨L, hL, hrep⟩ := hr.1 _ _ hgt
  let ρ0 : Ren := fun n => if gnm 0 ≤ n then ρ n else none
  have hg0 : ∀ g, gnm 0 ≤ gnm g := fun g => by unfold gnm; omega
  have g0 : GOk ρ0 := fun g => by
    obtain ⟨l, hl, r⟩ := hG g
    exact ⟨l, by simp [ρ0, hg0 g, hl], r⟩
  have hr0 : HeapRep P ρ0 [(gnm g, tabAO vs)] w := by
    refine ⟨fun n o e => ?_, fun n m o o' l l' e1 e2 hne => ?_⟩
    · simp only [get] at e
      split at e
      · rename_i hb; cases e
        have hb := Nat.eq_of_beq_eq_true hb
        subst hb
        exact ⟨L, by simp [ρ0, hg0 g, hL], arr_tab hp hF hrep⟩
      · cases e
    · exfalso
      simp only [get] at e1 e2
      split at e1
      · split at e2
        · rename_i a _ b
          have a := Nat.eq_of_beq_eq_true a
          have b := Nat.eq_of_beq_eq_true b
          omega
        · cases e2
      · cases e1
  have hx1 := nrmL_den _ _ hx
  have hx2 : denL ρ0 (nrmL args) = some xs := by rw [denL_flat e5 ρ0 ρ]; exact hx1
  refine (H _ _ _ hs ρ0 w hob hr0 (fun n h1 h2 => by simp [ρ0]; omega) g0 xs hx2).mono fun e w' ⟨x, he, hx, fr⟩ => ⟨x, ρ, he, relS_flat e6 hx, ?_⟩
  have same : ∀ b, b < w.heap.size → w'.heap[b]? = w.heap[b]? := fun b hb => fr.same b hb (fun h => h)
  refine ⟨Le.refl ρ, fun n l a b => (by rw [a] at b; cases b), ⟨fun n o e => ?_, hr.2⟩, ⟨fr.size, fun b hb _ => same b hb, fr.tape, fr.os, fr.output⟩, fun n o l a b c _ => ⟨n, o, l, a, rfl, b, c, rfl, .inl rfl⟩⟩
  obtain ⟨l, hl, ho⟩ := hr.1 n o e
  exact ⟨l, hl, ho.keep (Le.refl ρ) (fun hc => same _ (ho.lt hc))⟩
/-- A closed call that answers true. -/
def sNone : List AV → Option (AV × List Prop)
  | [] => some (.bool true, [])
  | _ => none
theorem sNone_ok {P : Program} {f : FuncId} {g : Nat} {vs : List Value} (h : TabPure P f [] (.bool true) [] g vs) : ∀ la v ob, sNone la = some (v, ob) → TabPure P f la v ob g vs := by
  intro la v ob e
  unfold sNone at e
  split at e
  · cases e; exact h
  · cases e
/-! ### .. in closed runs: no obligation is left -/
def avSame : AV → AV → Bool
  | .int k n, .int k' n' => match decide (k = k') with
    | true => decide (n = n')
    | false => false
  | .bool b, .bool c => match b, c with
    | true, true => true
    | false, false => true
    | _, _ => false
  | _, _ => false
theorem avSame_eq {a b : AV} (h : avSame a b = true) : a = b := by
  unfold avSame at h
  split at h
  · split at h
    · rename_i e; rw [of_decide_eq_true e, of_decide_eq_true h]
    · cases h
  · split at h
    · rfl
    · rfl
    · cases h
  · cases h
def tabBn (vs : List Value) (F : Nat → Nat → AV) : Nat → Bool
  | 0 => true
  | j + 1 => match avSame (F 0 j) (tabF vs 0 j) with
    | true => tabBn vs F j
    | false => false
theorem tabBn_ok {vs : List Value} {F : Nat → Nat → AV} : ∀ n, tabBn vs F n = true → ∀ j, j < n → F 0 j = tabF vs 0 j
  | 0, _, j, h => by omega
  | n + 1, e, j, h => by
    unfold tabBn at e
    split at e
    · rename_i q
      by_cases hj : j = n
      · subst hj; exact avSame_eq q
      · exact tabBn_ok n e j (by omega)
    · cases e
def tabSPc (g : Nat) (vs : List Value) (s : List AV → Option (AV × List Prop)) : SP := fun args h => match get h.heap (gnm g), s (nrmL args) with
  | some (.arr n sh ro len F), some (v, ob) => match Nat.beq n vs.length && (shBeq sh (vs.map kindOfV) && (ro && (Nat.beq len 1 && (allFlat (nrmL args) && flatV v)))), tabBn vs F vs.length with
    | true, true => some (v, ⟨h.heap, h.nxt, h.hi, h.hints, ob ++ h.ob, h.wr, h.auto⟩)
    | _, _ => none
  | _, _ => none
theorem tabSPc_ok {P : Program} {f : FuncId} {g : Nat} {vs : List Value} {s : List AV → Option (AV × List Prop)} (hp : plainB vs = true) (H : ∀ la v ob, s la = some (v, ob) → TabPure P f la v ob g vs) : SPOk P f (tabSPc g vs s) := by
  intro args h v h' e
  unfold tabSPc at e
  split at e
  case h_2 => cases e
  rename_i n sh ro len F v1 ob hgt hs
  split at e
  case h_2 => cases e
  rename_i hb ht
  cases e
  have q := tabSP_ok (f := f) hp H args h v ⟨h.heap, h.nxt, h.hi, h.hints, TabIs vs F :: (ob ++ h.ob), h.wr, h.auto⟩ (by unfold tabSP; rw [hgt, hs]; simp only [hb])
  refine ⟨⟨fun p hp => List.mem_append_right _ hp, Nat.le_refl _, rfl, fun n hn => hn⟩, fun ho ρ w hr hf hG xs hx => ?_⟩
  refine (q.wp (fun p hp => ?_) ρ w hr hf hG xs hx).mono fun e w' ⟨x, ρ', a, b, c⟩ => ⟨x, ρ', a, b, ⟨c.le, c.new, c.rep, c.fr, c.own⟩⟩
  rcases List.mem_cons.1 hp with rfl | hp
  · exact tabBn_ok _ ht
  · exact ho p hp
end Go.Ev
