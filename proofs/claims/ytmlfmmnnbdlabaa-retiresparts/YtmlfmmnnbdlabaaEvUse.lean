/-
  Contracts out of evaluations; an environment out of contracts.
-/
import Derived.Test.YtmlfmmnnbdlabaaEvLoop
import Derived.Test.YtmlfmmnnbdlabaaEvLocal
import Derived.Test.YtmlfmmnnbdlabaaEvJoin
set_option linter.unusedSimpArgs false
set_option linter.unusedVariables false
namespace Go.Ev

/-- The heap that a local contract starts from. -/
def LR.from (R : LR) (lh : List (Nat × AO)) : Hp := ⟨lh, R.k + 1, gnm 0, [], [], [], false⟩
def LR.to (R : LR) : Hp := ⟨R.heap, R.k + 1 + R.n, gnm 0, [], [], R.wr, false⟩

theorem loc_of_run {E : Env} (hE : EnvOk E) {f : FuncId} {la : List AV} {lh : List (Nat × AO)} {R : LR}
    (H : (∀ p ∈ R.ob, p) → ∃ fuel hints v1 h1, callF E fuel f la ⟨lh, R.k + 1, gnm 0, hints, [], [], false⟩ = some (v1, h1) ∧ Obs h1 ∧ ∃ m ob, castSt (R.from lh) m ⟨[v1], h1⟩ ⟨[R.v], R.to⟩ = some ob ∧ ∀ p ∈ ob, p) : LocOk E.P f la lh R := by
  intro ρ w hob hr hf hg xs hx
  obtain ⟨fuel, hints, v1, h1, hc, ho, m, ob, hcast, hob2⟩ := H hob
  refine (((all_ok hE fuel).ca f la _ v1 h1 hc).wp ho ρ w hr hf hg xs hx).mono fun e w' ⟨x, ρ', he, hx, st⟩ => ?_
  have st' : Step E.P ρ (R.from lh) w ρ' h1 w' := st.of_eq rfl rfl rfl rfl rfl
  obtain ⟨ρ2, q1, q2, _⟩ := castSt_ok (xs := [x]) (s := ⟨[v1], h1⟩) st' hf hr hcast hob2 ⟨rfl, fun k v hk => by
    cases k with
    | zero => simp at hk; subst hk; exact ⟨x, rfl, hx⟩
    | succ k => simp at hk⟩
  refine ⟨x, ρ2, he, ?_, q2.of_eq rfl rfl rfl rfl rfl⟩
  obtain ⟨y, hy, hr⟩ := q1.2 0 R.v rfl
  simp at hy; subst hy
  exact hr

abbrev LSpec := List AV → List (Nat × AO) → Option LR

def specOf : List (FuncId × LSpec) → FuncId → Option (List AV → Hp → Option (AV × Hp))
  | [], _ => none
  | (g, s) :: r, f => match Nat.beq g f with
    | true => some (applyLoc s)
    | false => specOf r f

def SpecsOk (P : Program) : List (FuncId × LSpec) → Prop
  | [] => True
  | (g, s) :: r => (∀ la lh R, s la lh = some R → LocOk P g la lh R) ∧ SpecsOk P r

theorem specOf_ok {P : Program} : ∀ (l : List (FuncId × LSpec)), SpecsOk P l → ∀ f g, specOf l f = some g → ∀ args h v h', g args h = some (v, h') → CaOk P f args h v h'
  | [], _, f, g, e => by cases e
  | (q, s) :: r, ok, f, g, e => by
    intro args h v h' hg
    simp only [specOf] at e
    split at e
    · rename_i hq
      have hq := Nat.eq_of_beq_eq_true hq; subst hq
      cases e
      exact applyLoc_ok ok.1 hg
    · exact specOf_ok r ok.2 f g e args h v h' hg

def envOf (P : Program) (l : List (FuncId × LSpec)) : Env := ⟨P, specOf l, LoopHolds P⟩

theorem envOf_ok {P : Program} (G : Good P) {l : List (FuncId × LSpec)} (ok : SpecsOk P l) : EnvOk (envOf P l) :=
  ⟨G, fun _ _ _ _ h => h, specOf_ok l ok⟩


/-! ### evaluations that end in a cast -/
def roundB (E : Env) (fuel : Nat) (c : Code) (h0 : Hp) (m : List (Nat × Src)) (T : St) (hints : List Hint) (tgt : St) : Option (Ex × List Prop) :=
  match exec E fuel c ⟨T.tmps, ⟨T.hp.heap, T.hp.nxt, T.hp.hi, hints, [], T.hp.wr, false⟩⟩ with
  | some (e, s') => match castSt h0 m s' tgt with
    | some ob => some (e, ob ++ s'.hp.ob)
    | none => none
  | none => none

theorem roundB_spec {E : Env} {fuel : Nat} {c : Code} {h0 : Hp} {m : List (Nat × Src)} {T : St} {hints : List Hint} {tgt : St} {e : Ex} {ob : List Prop} (h : roundB E fuel c h0 m T hints tgt = some (e, ob)) (ho : ∀ p ∈ ob, p) :
    ∃ s', exec E fuel c ⟨T.tmps, ⟨T.hp.heap, T.hp.nxt, T.hp.hi, hints, [], T.hp.wr, false⟩⟩ = some (e, s') ∧ Obs s'.hp ∧ ∃ ob, castSt h0 m s' tgt = some ob ∧ ∀ p ∈ ob, p := by
  unfold roundB at h
  split at h
  · rename_i e' s' hx
    split at h
    · rename_i ob' hc
      cases h
      obtain ⟨a, b⟩ := all_append ho
      exact ⟨s', hx, b, ob', hc, a⟩
    · cases h
  · cases h

theorem round_norm {E : Env} {c : Code} {s0 : St} {e0 : Ex} {s1 : St} {I : Type} {T : I → St} {μ : I → Nat} {ok : I → Prop} {i : I} (j : I) {fuel : Nat} {m : List (Nat × Src)} {hints : List Hint} {ob : List Prop}
    (h : roundB E fuel c s0.hp m (T i) hints (T j) = some (.norm, ob)) (ho : ∀ p ∈ ob, p) (hj : ok j) (hμ : μ j < μ i) : RoundOk E c s0 e0 s1 T μ ok i := by
  obtain ⟨s', h1, h2, ob', h3, h4⟩ := roundB_spec h ho
  exact ⟨fuel, hints, .norm, s', h1, h2, .inl ⟨rfl, j, m, ob', hj, hμ, h3, h4⟩⟩

theorem round_exit {E : Env} {c : Code} {s0 : St} {e0 : Ex} {s1 : St} {I : Type} {T : I → St} {μ : I → Nat} {ok : I → Prop} {i : I} {fuel : Nat} {m : List (Nat × Src)} {hints : List Hint} {ob : List Prop}
    (h : roundB E fuel c s0.hp m (T i) hints s1 = some (e0, ob)) (hne : e0 ≠ .norm) (ho : ∀ p ∈ ob, p) : RoundOk E c s0 e0 s1 T μ ok i := by
  obtain ⟨s', h1, h2, ob', h3, h4⟩ := roundB_spec h ho
  exact ⟨fuel, hints, e0, s', h1, h2, .inr ⟨rfl, hne, m, ob', h3, h4⟩⟩

def callB (E : Env) (fuel : Nat) (f : FuncId) (la : List AV) (lh : List (Nat × AO)) (R : LR) (m : List (Nat × Src)) (hints : List Hint) : Option (List Prop) :=
  match callF E fuel f la ⟨lh, R.k + 1, gnm 0, hints, [], [], false⟩ with
  | some (v1, h1) => match castSt (R.from lh) m ⟨[v1], h1⟩ ⟨[R.v], R.to⟩ with
    | some ob => some (ob ++ h1.ob)
    | none => none
  | none => none

theorem loc_of_call {E : Env} (hE : EnvOk E) {f : FuncId} {la : List AV} {lh : List (Nat × AO)} {R : LR}
    (H : (∀ p ∈ R.ob, p) → ∃ fuel hints m ob, callB E fuel f la lh R m hints = some ob ∧ ∀ p ∈ ob, p) : LocOk E.P f la lh R := by
  refine loc_of_run hE (fun hp => ?_)
  obtain ⟨fuel, hints, m, ob, h, ho⟩ := H hp
  unfold callB at h
  split at h
  · rename_i v1 h1 hc
    split at h
    · rename_i ob' hcast
      cases h
      obtain ⟨a, b⟩ := all_append ho
      exact ⟨fuel, hints, v1, h1, hc, b, m, ob', hcast, a⟩
    · cases h
  · cases h

/-! ### a function's loops, in the order of the text -/
def loops : Code → List Code
  | .seq a b => loops a ++ loops b
  | .cond _ a b => loops a ++ loops b
  | .block _ a => loops a
  | .loop a => a :: loops a
  | .scope a => loops a
  | _ => []
def nthC : List Code → Nat → Code
  | [], _ => .skip
  | c :: _, 0 => c
  | _ :: r, n + 1 => nthC r n
def loopAt (P : Program) (f k : Nat) : Code := match P.funcs[f]? with
  | some fn => match fn.body with
    | some c => nthC (loops c) k
    | none => .skip
  | none => .skip

theorem ob_nil : ∀ p ∈ ([] : List Prop), p := fun p h => by cases h
theorem ob_cons {q : Prop} {l : List Prop} (hq : q) (hl : ∀ p ∈ l, p) : ∀ p ∈ q :: l, p := fun p h => by
  rcases List.mem_cons.1 h with rfl | h
  · exact hq
  · exact hl p h

/-- Obligations as one conjunction. -/
@[reducible] def conjL : List Prop → Prop
  | [] => True
  | p :: r => p ∧ conjL r
theorem cj : ∀ {l : List Prop}, conjL l → ∀ p ∈ l, p
  | [], _, p, h => by cases h
  | q :: r, hq, p, h => by
    rcases List.mem_cons.1 h with rfl | h
    · exact hq.1
    · exact cj hq.2 p h

/-- The first place where a row of truths ends. -/
theorem first_false (p : Nat → Bool) : ∀ n, (∀ i, i < n → p i = true) ∨ ∃ k, k < n ∧ p k = false ∧ ∀ i, i < k → p i = true
  | 0 => .inl (fun i h => by omega)
  | n + 1 => by
    rcases first_false p n with h | ⟨k, h1, h2, h3⟩
    · cases hn : p n with
      | true => exact .inl (fun i hi => by
          by_cases e : i = n
          · rw [e]; exact hn
          · exact h i (by omega))
      | false => exact .inr ⟨n, by omega, hn, h⟩
    · exact .inr ⟨k, by omega, h2, h3⟩

def allB (p : Nat → Bool) : Nat → Bool
  | 0 => true
  | n + 1 => allB p n && p n

theorem allB_iff (p : Nat → Bool) : ∀ n, allB p n = true ↔ ∀ i, i < n → p i = true
  | 0 => by simp [allB]
  | n + 1 => by
    simp only [allB, Bool.and_eq_true, allB_iff p n]
    constructor
    · rintro ⟨h1, h2⟩ i hi
      by_cases e : i = n
      · rw [e]; exact h2
      · exact h1 i (by omega)
    · intro h
      exact ⟨fun i hi => h i (by omega), h n (by omega)⟩

theorem wrap_nat64 (n : Int) (h0 : 0 ≤ n) (h1 : n < 9223372036854775808) : IntKind.i64.wrap n = n := by
  have e : n % 18446744073709551616 = n := Int.emod_eq_of_lt h0 (by omega)
  have h2 : ¬ (9223372036854775808 : Int) ≤ n := by omega
  show (if (true && decide (n % 18446744073709551616 ≥ (9223372036854775808 : Int))) = true then n % 18446744073709551616 - 18446744073709551616 else n % 18446744073709551616) = n
  rw [e]
  simp [h2]

/-- A closed call as a contract. -/
theorem lives_of_run {E : Env} (hE : EnvOk E) {fuel f : Nat} (h : (callF E fuel f [] ⟨[], 0, gnm 0, [], [], [], true⟩).map (fun x => (x.1, x.2.ob)) = some (.bool true, [])) : LocOk E.P f [] [] ⟨0, .bool true, [], 0, [], []⟩ := by
  intro ρ w hob hr hf hg xs hx
  cases hc : callF E fuel f [] ⟨[], 0, gnm 0, [], [], [], true⟩ with
  | none => rw [hc] at h; cases h
  | some y =>
    rw [hc] at h
    simp only [Option.map_some, Option.some.injEq, Prod.mk.injEq] at h
    obtain ⟨v, h1⟩ := y
    obtain ⟨rfl, h2⟩ := h
    exact (closed_ok hE hc h2 rfl ⟨[], 1, gnm 0, [], [], [], false⟩).wp (fun p hp => by cases hp) ρ w hr hf hg xs hx
theorem lives_of_run_s {E : Env} (hE : EnvOk E) {fuel f : Nat} (h : (callF E fuel f [] ⟨[], 0, gnm 0, [], [], [], true⟩).map (fun x => (x.1, x.2.ob)) = some (.symb true, [])) : LocOk E.P f [] [] ⟨0, .bool true, [], 0, [], []⟩ := by
  intro ρ w hob hr hf hg xs hx
  cases hc : callF E fuel f [] ⟨[], 0, gnm 0, [], [], [], true⟩ with
  | none => rw [hc] at h; cases h
  | some y =>
    rw [hc] at h
    simp only [Option.map_some, Option.some.injEq, Prod.mk.injEq] at h
    obtain ⟨v, h1⟩ := y
    obtain ⟨rfl, h2⟩ := h
    refine ((closed_ok hE hc h2 rfl ⟨[], 1, gnm 0, [], [], [], false⟩).wp (fun p hp => by cases hp) ρ w hr hf hg xs hx).mono fun e w' ⟨x, ρ', he, r, hs⟩ => ⟨x, ρ', he, ?_, hs⟩
    exact r.imp (fun h => by cases h) (fun e => by simpa [den] using e)
/-- A map's answer. -/
def mget (M : List Int → Option Int) (k : List Int) : Int := match M k with
  | some n => n
  | none => 0

theorem ob_app {a b : List Prop} (ha : ∀ p ∈ a, p) (hb : ∀ p ∈ b, p) : ∀ p ∈ a ++ b, p := fun p h => (List.mem_append.1 h).elim (ha p) (hb p)

end Go.Ev
