/-
  EvNorm and what follows it.
-/
import Derived.Test.YtmlfmmnnbdlabaaEvUse
/-
  Contracts that ask no more of closed values than of symbolic ones.
-/
set_option linter.unusedSimpArgs false
set_option linter.unusedVariables false
namespace Go.Ev

mutual
def nrmV : AV → AV
  | .int k n => .sym k n
  | .bool b => .symb b
  | .xs wd b o l c => .ss wd b o l c
  | .agg l => .agg (nrmL l)
  | .tup l => .tup (nrmL l)
  | v => v
def nrmL : List AV → List AV
  | [] => []
  | v :: r => nrmV v :: nrmL r
end

mutual
theorem nrmV_den {ρ : Ren} : ∀ (v : AV) (x : Value), den ρ v = some x → den ρ (nrmV v) = some x
  | .top, x, e => e
  | .int .., x, e => e
  | .sym .., x, e => e
  | .bool .., x, e => e
  | .symb .., x, e => e
  | .nilp, x, e => e
  | .ptr .., x, e => e
  | .nils, x, e => e
  | .xs wd b off len c, x, e => by
    simp only [nrmV, den] at e ⊢
    cases hb : ρ b with
    | none => simp [hb] at e
    | some l =>
      rw [hb] at e
      cases hn : l.isnil with
      | true => simp [hn] at e
      | false => simpa [hn] using e
  | .ss .., x, e => e
  | .nilm, x, e => e
  | .map .., x, e => e
  | .nilf, x, e => e
  | .func .., x, e => e
  | .nili, x, e => e
  | .iface .., x, e => e
  | .agg l, x, e => by
    simp only [nrmV, den] at e ⊢
    cases hl : denL ρ l with
    | none => simp [hl] at e
    | some xs => rw [hl] at e; rw [nrmL_den l xs hl]; exact e
  | .tup l, x, e => by
    simp only [nrmV, den] at e ⊢
    cases hl : denL ρ l with
    | none => simp [hl] at e
    | some xs => rw [hl] at e; rw [nrmL_den l xs hl]; exact e
  | .stamp .., x, e => e
  | .raw .., x, e => e
theorem nrmL_den {ρ : Ren} : ∀ (l : List AV) (xs : List Value), denL ρ l = some xs → denL ρ (nrmL l) = some xs
  | [], xs, e => e
  | v :: r, xs, e => by
    simp only [nrmL, denL] at e ⊢
    cases hv : den ρ v with
    | none => simp [hv] at e
    | some y => cases hr : denL ρ r with
      | none => simp [hv, hr] at e
      | some ys => rw [hv, hr] at e; rw [nrmV_den v y hv, nrmL_den r ys hr]; exact e
end

def nrmO : AO → AO
  | .cells wd l => .cells wd (nrmL l)
  | o => o

theorem nrmO_ro (o : AO) : (nrmO o).ro = o.ro := by cases o <;> rfl

theorem nrmL_get : ∀ (l : List AV) (j : Nat) v, (nrmL l)[j]? = some v → ∃ u, l[j]? = some u ∧ v = nrmV u
  | [], j, v, h => by simp [nrmL] at h
  | a :: r, 0, v, h => by simp [nrmL] at h; exact ⟨a, by simp, h.symm⟩
  | a :: r, j + 1, v, h => by simp [nrmL] at h; obtain ⟨u, hu, e⟩ := nrmL_get r j v h; exact ⟨u, by simpa using hu, e⟩
theorem nrmL_length : ∀ l : List AV, (nrmL l).length = l.length
  | [] => rfl
  | a :: r => by simp [nrmL, nrmL_length r]

theorem nrmO_rep {P : Program} {ρ : Ren} {w : World} {l : Loc} {o : AO} (h : ObjRep P ρ w l o) : ObjRep P ρ w l (nrmO o) := by
  cases o with
  | cells wd cs =>
    obtain ⟨h0, h1, h2, c, t, fr, hb, hf, hc, hc2, hv⟩ := h
    refine ⟨h0, h1, h2, c, t, fr, hb, hf, by rw [nrmL_length]; exact hc, hc2, fun j v hj => ?_⟩
    obtain ⟨u, hu, rfl⟩ := nrmL_get cs j v hj
    obtain ⟨x, hx, hr⟩ := hv j u hu
    refine ⟨x, hx, ?_⟩
    rcases hr with hr | hr
    · subst hr; exact .inl rfl
    · exact .inr (nrmV_den u x hr)
  | arr wd sh ro len f => exact h
  | map t f => exact h
  | mapP t f n k => exact h

def nrmH : List (Nat × AO) → List (Nat × AO)
  | [] => []
  | (n, o) :: r => (n, nrmO o) :: nrmH r

theorem nrmH_get : ∀ (h : List (Nat × AO)) (n : Nat) o, get (nrmH h) n = some o → ∃ o1, get h n = some o1 ∧ o = nrmO o1
  | [], n, o, e => by simp [nrmH, get] at e
  | (m, x) :: r, n, o, e => by
    simp only [nrmH, get] at e ⊢
    split at e
    · cases e; exact ⟨x, rfl, rfl⟩
    · exact nrmH_get r n o e
theorem nrmH_get' : ∀ (h : List (Nat × AO)) (n : Nat) o, get h n = some o → get (nrmH h) n = some (nrmO o)
  | [], n, o, e => by simp [get] at e
  | (m, x) :: r, n, o, e => by
    simp only [nrmH, get] at e ⊢
    split at e
    · cases e; rfl
    · exact nrmH_get' r n o e

theorem loc_nrm {P : Program} {f : FuncId} {la : List AV} {lh : List (Nat × AO)} {R : LR} (h : LocOk P f (nrmL la) (nrmH lh) R) : LocOk P f la lh R := by
  intro ρ w hob hr hf hg xs hx
  have hr' : HeapRep P ρ (nrmH lh) w := by
    refine ⟨fun n o e => ?_, fun n m o o' l l' e e' hne hro => ?_⟩
    · obtain ⟨o1, h1, rfl⟩ := nrmH_get _ _ _ e
      obtain ⟨l, hl, ho⟩ := hr.1 n o1 h1
      exact ⟨l, hl, nrmO_rep ho⟩
    · obtain ⟨o1, h1, rfl⟩ := nrmH_get _ _ _ e
      obtain ⟨o2, h2, rfl⟩ := nrmH_get _ _ _ e'
      rw [nrmO_ro, nrmO_ro] at hro
      exact hr.2 n m o1 o2 l l' h1 h2 hne hro
  refine (h ρ w hob hr' hf hg xs (nrmL_den _ _ hx)).mono fun e w' ⟨x, ρ', he, hv, st⟩ => ⟨x, ρ', he, hv, ?_⟩
  refine ⟨st.le, st.new, st.rep, st.fr.mono ?_, fun n o l h1 h2 h3 h4 => ?_⟩
  · rintro b ⟨m, hm, o, l, e1, e2, e3⟩
    obtain ⟨o1, h1, rfl⟩ := nrmH_get _ _ _ e1
    rw [nrmO_ro] at e2
    exact ⟨m, hm, o1, l, h1, e2, e3⟩
  · obtain ⟨m, o', l', e1, e2, e3⟩ := st.own n o l h1 h2 h3 h4
    obtain ⟨o1, g1, rfl⟩ := nrmH_get _ _ _ e1
    rw [nrmO_ro] at e2
    exact ⟨m, o1, l', g1, e2, e3⟩

/-- A contract over normal forms, for all. -/
def nrm (s : LSpec) : LSpec := fun la lh => s (nrmL la) (nrmH lh)

theorem nrm_ok {P : Program} {f : FuncId} {s : LSpec} (h : ∀ la lh R, s la lh = some R → LocOk P f la lh R) : ∀ la lh R, nrm s la lh = some R → LocOk P f la lh R :=
  fun la lh R e => loc_nrm (h _ _ R e)

end Go.Ev

/-
  Plain facts for contracts: searching, counting, numbers.
-/
set_option linter.unusedSimpArgs false
set_option linter.unusedVariables false
namespace Go.Ev

/-- The first place below n at which p holds, else n. -/
def fnd (p : Nat → Bool) : Nat → Nat
  | 0 => 0
  | n + 1 => if fnd p n < n then fnd p n else if p n = true then n else n + 1
theorem fnd_le (p : Nat → Bool) : ∀ n, fnd p n ≤ n
  | 0 => Nat.le_refl _
  | n + 1 => by have := fnd_le p n; simp only [fnd]; split <;> (try split) <;> omega
theorem fnd_none {p : Nat → Bool} : ∀ {n : Nat}, (∀ j, j < n → p j = false) → fnd p n = n
  | 0, _ => rfl
  | n + 1, h => by
    have := fnd_none (p := p) (n := n) (fun j hj => h j (by omega))
    simp [fnd, this, h n (by omega)]
theorem fnd_eq {p : Nat → Bool} {i : Nat} : ∀ {n : Nat}, i < n → p i = true → (∀ j, j < i → p j = false) → fnd p n = i
  | 0, h, _, _ => by omega
  | n + 1, h, hp, hb => by
    by_cases e : i = n
    · subst e
      have := fnd_none hb
      simp [fnd, this, hp]
    · have := fnd_eq (n := n) (by omega) hp hb
      simp [fnd, this]; omega
theorem first_true (p : Nat → Bool) (n : Nat) : (∀ i, i < n → p i = false) ∨ ∃ k, k < n ∧ p k = true ∧ ∀ i, i < k → p i = false := by
  rcases first_false (fun i => !p i) n with h | ⟨k, h1, h2, h3⟩
  · exact .inl (fun i hi => by simpa using h i hi)
  · exact .inr ⟨k, h1, by simpa using h2, fun i hi => by simpa using h3 i hi⟩
theorem fnd_spec {p : Nat → Bool} {n : Nat} (h : fnd p n < n) : p (fnd p n) = true ∧ ∀ j, j < fnd p n → p j = false := by
  rcases first_true p n with h1 | ⟨k, h1, h2, h3⟩
  · rw [fnd_none h1] at h; omega
  · rw [fnd_eq h1 h2 h3]; exact ⟨h2, h3⟩
theorem fnd_no {p : Nat → Bool} {n : Nat} (h : ¬ fnd p n < n) : ∀ j, j < n → p j = false := by
  rcases first_true p n with h1 | ⟨k, h1, h2, h3⟩
  · exact h1
  · rw [fnd_eq h1 h2 h3] at h; omega

/-- What is found at the first place, else another. -/
def srch (p : Nat → Bool) (n : Nat) (v : Nat → Int) (v0 : Int) : Int := if fnd p n < n then v (fnd p n) else v0
def srchB (p : Nat → Bool) (n : Nat) : Bool := decide (fnd p n < n)
theorem srch_at {p : Nat → Bool} {n k : Nat} {v : Nat → Int} {v0 : Int} (h1 : k < n) (h2 : p k = true) (h3 : ∀ i, i < k → p i = false) : srch p n v v0 = v k := by
  unfold srch; rw [fnd_eq h1 h2 h3, if_pos h1]
theorem srch_no {p : Nat → Bool} {n : Nat} {v : Nat → Int} {v0 : Int} (h : ∀ i, i < n → p i = false) : srch p n v v0 = v0 := by
  unfold srch; rw [fnd_none h, if_neg (Nat.lt_irrefl _)]
theorem srchB_at {p : Nat → Bool} {n k : Nat} (h1 : k < n) (h2 : p k = true) (h3 : ∀ i, i < k → p i = false) : srchB p n = true := by
  unfold srchB; rw [fnd_eq h1 h2 h3]; exact decide_eq_true h1
theorem srchB_no {p : Nat → Bool} {n : Nat} (h : ∀ i, i < n → p i = false) : srchB p n = false := by
  unfold srchB; rw [fnd_none h]; exact decide_eq_false (Nat.lt_irrefl _)
theorem srch_congr {p q : Nat → Bool} {n : Nat} {v w : Nat → Int} {v0 : Int} (h : ∀ i, i < n → p i = q i) (hv : ∀ i, i < n → v i = w i) : srch p n v v0 = srch q n w v0 := by
  rcases first_true p n with h1 | ⟨k, h1, h2, h3⟩
  · rw [srch_no h1, srch_no (fun i hi => by rw [← h i hi]; exact h1 i hi)]
  · rw [srch_at h1 h2 h3, srch_at h1 (by rw [← h k h1]; exact h2) (fun i hi => by rw [← h i (by omega)]; exact h3 i hi), hv k h1]

theorem and2_eq (a b : Bool) : and2 a b = (a && b) := by cases a <;> rfl
theorem u64m (x : Int) : IntKind.u64.wrap x = x % 18446744073709551616 := by
  simp [IntKind.wrap, IntKind.signed, IntKind.bits]
theorem u64r (x : Int) : 0 ≤ IntKind.u64.wrap x ∧ IntKind.u64.wrap x < 18446744073709551616 := by rw [u64m]; omega
theorem u64w {x : Int} (h0 : 0 ≤ x) (h1 : x < 18446744073709551616) : IntKind.u64.wrap x = x := by rw [u64m]; omega
theorem u8m (x : Int) : IntKind.u8.wrap x = x % 256 := by
  simp [IntKind.wrap, IntKind.signed, IntKind.bits]
theorem i64w {x : Int} (h0 : -9223372036854775808 ≤ x) (h1 : x < 9223372036854775808) : IntKind.i64.wrap x = x := by
  show (if (true && decide (x % 18446744073709551616 ≥ (9223372036854775808 : Int))) = true then x % 18446744073709551616 - 18446744073709551616 else x % 18446744073709551616) = x
  by_cases h : x % 18446744073709551616 ≥ 9223372036854775808
  · rw [if_pos (by simpa using h)]; omega
  · rw [if_neg (by simpa using h)]; omega

/-- A law's ways. -/
def Runs (run : List Hint → Option (AV × List Prop × Bool)) : Prop := ∃ h v ob, run h = some (v, ob, true) ∧ isTrue v ∧ ∀ p ∈ ob, p
theorem goodB {P : Program} (h1 : P.follows .mixedOrders = true) (h2 : P.funcs.toList.all (fun fn => !fn.body.isSome || !(fn.name == "runtime.NumGoroutine")) = true) : Good P where
  mixed := h1
  names := fun f fn h h3 => by
    have hm : fn ∈ P.funcs.toList := by
      obtain ⟨hlt, rfl⟩ := Array.getElem?_eq_some_iff.1 h
      simp
    have := List.all_eq_true.1 h2 fn hm
    simpa [h3] using this
theorem eq_no {b : Bool} : ((b == b) == false) = false := by cases b <;> rfl
theorem avI_s (k : IntKind) (n : Int) : avInt (.sym k n) = n := rfl
theorem avI_i (k : IntKind) (n : Int) : avInt (.int k n) = n := rfl
theorem avB_s (b : Bool) : avBool (.symb b) = b := rfl
theorem avB_b (b : Bool) : avBool (.bool b) = b := rfl
theorem u8_range {n : Int} (h : (Lit.int .u8 n).wf = true) : 0 ≤ n ∧ n < 256 := by
  simp [Lit.wf, IntKind.min, IntKind.max, IntKind.bits, IntKind.signed] at h; omega
theorem u16_range {n : Int} (h : (Lit.int .u16 n).wf = true) : 0 ≤ n ∧ n < 65536 := by
  simp [Lit.wf, IntKind.min, IntKind.max, IntKind.bits, IntKind.signed] at h; omega
theorem u32_range {n : Int} (h : (Lit.int .u32 n).wf = true) : 0 ≤ n ∧ n < 4294967296 := by
  simp [Lit.wf, IntKind.min, IntKind.max, IntKind.bits, IntKind.signed] at h; omega
theorem i64_range {n : Int} (h : (Lit.int .i64 n).wf = true) : -9223372036854775808 ≤ n ∧ n < 9223372036854775808 := by
  simp [Lit.wf, IntKind.min, IntKind.max, IntKind.bits, IntKind.signed] at h; omega
end Go.Ev

/-
  An environment out of contracts, some of which a hint chooses.
-/
set_option linter.unusedSimpArgs false
set_option linter.unusedVariables false
namespace Go.Ev
abbrev SP := List AV → Hp → Option (AV × Hp)
def SPOk (P : Program) (f : FuncId) (g : SP) : Prop := ∀ args h v h', g args h = some (v, h') → CaOk P f args h v h'
abbrev SpecOk (P : Program) (f : FuncId) (s : LSpec) : Prop := ∀ la lh R, s la lh = some R → LocOk P f la lh R
def locSP (s : LSpec) : SP := applyLoc (nrm s)
theorem locSP_ok {P : Program} {f : FuncId} {s : LSpec} (h : SpecOk P f s) : SPOk P f (locSP s) := fun _ _ _ _ e => applyLoc_ok (nrm_ok h) e
/-- As the evaluator has it, closed values as they are. -/
def rawSP (s : LSpec) : SP := applyLoc s
theorem rawSP_ok {P : Program} {f : FuncId} {s : LSpec} (h : SpecOk P f s) : SPOk P f (rawSP s) := fun _ _ _ _ e => applyLoc_ok h e
def altSP (s t : LSpec) : SP := fun args h => match h.hints with
  | .b c :: r => match c with
    | true => applyLoc (nrm s) args { h with hints := r }
    | false => applyLoc (nrm t) args { h with hints := r }
  | _ => none
theorem altSP_ok {P : Program} {f : FuncId} {s t : LSpec} (hs : SpecOk P f s) (ht : SpecOk P f t) : SPOk P f (altSP s t) := by
  intro args h v h' e
  unfold altSP at e
  split at e
  · rename_i c r hr
    split at e
    · have o := applyLoc_ok (nrm_ok hs) e
      exact ⟨⟨o.mono.ob, o.mono.nxt, o.mono.hi, o.mono.wr⟩, fun ho ρ w hr hf hg xs hx => (o.wp ho ρ w hr hf hg xs hx).mono fun e w' ⟨x, ρ', a, b, c⟩ => ⟨x, ρ', a, b, ⟨c.le, c.new, c.rep, c.fr, c.own⟩⟩⟩
    · have o := applyLoc_ok (nrm_ok ht) e
      exact ⟨⟨o.mono.ob, o.mono.nxt, o.mono.hi, o.mono.wr⟩, fun ho ρ w hr hf hg xs hx => (o.wp ho ρ w hr hf hg xs hx).mono fun e w' ⟨x, ρ', a, b, c⟩ => ⟨x, ρ', a, b, ⟨c.le, c.new, c.rep, c.fr, c.own⟩⟩⟩
  · cases e
def orSP (a b : SP) : SP := fun args h => match a args h with
  | some x => some x
  | none => b args h
theorem orSP_ok {P : Program} {f : FuncId} {a b : SP} (ha : SPOk P f a) (hb : SPOk P f b) : SPOk P f (orSP a b) := by
  intro args h v h' e
  unfold orSP at e
  split at e
  · rename_i x hx; cases e; exact ha _ _ _ _ hx
  · exact hb _ _ _ _ e
def spOf : List (FuncId × SP) → FuncId → Option SP
  | [], _ => none
  | (g, s) :: r, f => match Nat.beq g f with
    | true => some s
    | false => spOf r f
def SPsOk (P : Program) : List (FuncId × SP) → Prop
  | [] => True
  | (g, s) :: r => SPOk P g s ∧ SPsOk P r
theorem spOf_ok {P : Program} : ∀ (l : List (FuncId × SP)), SPsOk P l → ∀ f g, spOf l f = some g → SPOk P f g
  | [], _, f, g, e => by cases e
  | (q, s) :: r, ok, f, g, e => by
    simp only [spOf] at e
    split at e
    · rename_i hq
      have hq := Nat.eq_of_beq_eq_true hq; subst hq
      cases e
      exact ok.1
    · exact spOf_ok r ok.2 f g e
def envG (P : Program) (l : List (FuncId × SP)) : Env := ⟨P, spOf l, LoopHolds P⟩
theorem envG_ok {P : Program} (G : Good P) {l : List (FuncId × SP)} (ok : SPsOk P l) : EnvOk (envG P l) :=
  ⟨G, fun _ _ _ _ h => h, spOf_ok l ok⟩
end Go.Ev
