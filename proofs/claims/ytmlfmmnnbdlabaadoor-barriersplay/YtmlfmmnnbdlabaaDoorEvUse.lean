/-
  EvUse and what follows it.
-/
import Derived.Test.YtmlfmmnnbdlabaaDoorEvLoop
/-
  Contracts out of evaluations; an environment out of contracts.
-/
set_option linter.unusedSimpArgs false
set_option linter.unusedVariables false
namespace Go.Ev

/-- The heap that a local contract starts from. -/
def LR.from (R : LR) (lh : List (Nat × AO)) : Hp := ⟨lh, R.k + 1, gnm 0, [], [], [], false⟩
def LR.to (R : LR) : Hp := ⟨R.heap, R.k + 1 + R.n, gnm 0, [], [], R.wr, false⟩

theorem loc_of_run {E : Env} (hE : EnvOk E) {f : FuncId} {la : List AV} {lh : List (Nat × AO)} {R : LR}
    (H : (∀ p ∈ R.ob, p) → ∃ fuel hints v1 h1, callF E fuel f la ⟨lh, R.k + 1, gnm 0, hints, [], [], false⟩ = some (v1, h1) ∧ Obs h1 ∧ ∃ m ob, castSt (R.from lh) m ⟨[v1], h1⟩ ⟨[R.v], R.to⟩ = some ob ∧ ∀ p ∈ ob, p) : LocOk E.P f la lh R := by
  intro ρ w hob hr hf hg xs hx
  obtain ⟨fuel, hints, v1, h1, hc, ho, m, ob, hcast, hob2⟩ := H hob
  refine (((all_ok hE fuel).ca f la _ v1 h1 hc).wp ho ρ w hr hf hg xs hx).mono fun e w' ⟨x, ρ', he, hx, st⟩ => ?_
  have st' : Step E.P ρ (R.from lh) w ρ' h1 w' := st.of_eq rfl rfl rfl rfl rfl
  obtain ⟨ρ2, q1, q2, _⟩ := castSt_ok (xs := [x]) (s := ⟨[v1], h1⟩) st' hf hr hcast hob2 ⟨rfl, fun k v hk => by
    cases k with
    | zero => simp at hk; subst hk; exact ⟨x, rfl, hx⟩
    | succ k => simp at hk⟩
  refine ⟨x, ρ2, he, ?_, q2.of_eq rfl rfl rfl rfl rfl⟩
  obtain ⟨y, hy, hr⟩ := q1.2 0 R.v rfl
  simp at hy; subst hy
  exact hr

abbrev LSpec := List AV → List (Nat × AO) → Option LR

def specOf : List (FuncId × LSpec) → FuncId → Option (List AV → Hp → Option (AV × Hp))
  | [], _ => none
  | (g, s) :: r, f => match Nat.beq g f with
    | true => some (applyLoc s)
    | false => specOf r f

def SpecsOk (P : Program) : List (FuncId × LSpec) → Prop
  | [] => True
  | (g, s) :: r => (∀ la lh R, s la lh = some R → LocOk P g la lh R) ∧ SpecsOk P r

theorem specOf_ok {P : Program} : ∀ (l : List (FuncId × LSpec)), SpecsOk P l → ∀ f g, specOf l f = some g → ∀ args h v h', g args h = some (v, h') → CaOk P f args h v h'
  | [], _, f, g, e => by cases e
  | (q, s) :: r, ok, f, g, e => by
    intro args h v h' hg
    simp only [specOf] at e
    split at e
    · rename_i hq
      have hq := Nat.eq_of_beq_eq_true hq; subst hq
      cases e
      exact applyLoc_ok ok.1 hg
    · exact specOf_ok r ok.2 f g e args h v h' hg

def envOf (P : Program) (l : List (FuncId × LSpec)) : Env := ⟨P, specOf l, LoopHolds P⟩

theorem envOf_ok {P : Program} (G : Good P) {l : List (FuncId × LSpec)} (ok : SpecsOk P l) : EnvOk (envOf P l) :=
  ⟨G, fun _ _ _ _ h => h, specOf_ok l ok⟩


/-! ### evaluations that end in a cast -/
def roundB (E : Env) (fuel : Nat) (c : Code) (h0 : Hp) (m : List (Nat × Src)) (T : St) (hints : List Hint) (tgt : St) : Option (Ex × List Prop) :=
  match exec E fuel c ⟨T.tmps, ⟨T.hp.heap, T.hp.nxt, T.hp.hi, hints, [], T.hp.wr, false⟩⟩ with
  | some (e, s') => match castSt h0 m s' tgt with
    | some ob => some (e, ob ++ s'.hp.ob)
    | none => none
  | none => none

theorem roundB_spec {E : Env} {fuel : Nat} {c : Code} {h0 : Hp} {m : List (Nat × Src)} {T : St} {hints : List Hint} {tgt : St} {e : Ex} {ob : List Prop} (h : roundB E fuel c h0 m T hints tgt = some (e, ob)) (ho : ∀ p ∈ ob, p) :
    ∃ s', exec E fuel c ⟨T.tmps, ⟨T.hp.heap, T.hp.nxt, T.hp.hi, hints, [], T.hp.wr, false⟩⟩ = some (e, s') ∧ Obs s'.hp ∧ ∃ ob, castSt h0 m s' tgt = some ob ∧ ∀ p ∈ ob, p := by
  unfold roundB at h
  split at h
  · rename_i e' s' hx
    split at h
    · rename_i ob' hc
      cases h
      obtain ⟨a, b⟩ := all_append ho
      exact ⟨s', hx, b, ob', hc, a⟩
    · cases h
  · cases h

theorem round_norm {E : Env} {c : Code} {s0 : St} {e0 : Ex} {s1 : St} {I : Type} {T : I → St} {μ : I → Nat} {ok : I → Prop} {i : I} (j : I) {fuel : Nat} {m : List (Nat × Src)} {hints : List Hint} {ob : List Prop}
    (h : roundB E fuel c s0.hp m (T i) hints (T j) = some (.norm, ob)) (ho : ∀ p ∈ ob, p) (hj : ok j) (hμ : μ j < μ i) : RoundOk E c s0 e0 s1 T μ ok i := by
  obtain ⟨s', h1, h2, ob', h3, h4⟩ := roundB_spec h ho
  exact ⟨fuel, hints, .norm, s', h1, h2, .inl ⟨rfl, j, m, ob', hj, hμ, h3, h4⟩⟩

theorem round_exit {E : Env} {c : Code} {s0 : St} {e0 : Ex} {s1 : St} {I : Type} {T : I → St} {μ : I → Nat} {ok : I → Prop} {i : I} {fuel : Nat} {m : List (Nat × Src)} {hints : List Hint} {ob : List Prop}
    (h : roundB E fuel c s0.hp m (T i) hints s1 = some (e0, ob)) (hne : e0 ≠ .norm) (ho : ∀ p ∈ ob, p) : RoundOk E c s0 e0 s1 T μ ok i := by
  obtain ⟨s', h1, h2, ob', h3, h4⟩ := roundB_spec h ho
  exact ⟨fuel, hints, e0, s', h1, h2, .inr ⟨rfl, hne, m, ob', h3, h4⟩⟩

def callB (E : Env) (fuel : Nat) (f : FuncId) (la : List AV) (lh : List (Nat × AO)) (R : LR) (m : List (Nat × Src)) (hints : List Hint) : Option (List Prop) :=
  match callF E fuel f la ⟨lh, R.k + 1, gnm 0, hints, [], [], false⟩ with
  | some (v1, h1) => match castSt (R.from lh) m ⟨[v1], h1⟩ ⟨[R.v], R.to⟩ with
    | some ob => some (ob ++ h1.ob)
    | none => none
  | none => none

theorem loc_of_call {E : Env} (hE : EnvOk E) {f : FuncId} {la : List AV} {lh : List (Nat × AO)} {R : LR}
    (H : (∀ p ∈ R.ob, p) → ∃ fuel hints m ob, callB E fuel f la lh R m hints = some ob ∧ ∀ p ∈ ob, p) : LocOk E.P f la lh R := by
  refine loc_of_run hE (fun hp => ?_)
  obtain ⟨fuel, hints, m, ob, h, ho⟩ := H hp
  unfold callB at h
  split at h
  · rename_i v1 h1 hc
    split at h
    · rename_i ob' hcast
      cases h
      obtain ⟨a, b⟩ := all_append ho
      exact ⟨fuel, hints, v1, h1, hc, b, m, ob', hcast, a⟩
    · cases h
  · cases h

/-! ### a function's loops, in the order of the text -/
def loops : Code → List Code
  | .seq a b => loops a ++ loops b
  | .cond _ a b => loops a ++ loops b
  | .block _ a => loops a
  | .loop a => a :: loops a
  | .scope a => loops a
  | _ => []
def nthC : List Code → Nat → Code
  | [], _ => .skip
  | c :: _, 0 => c
  | _ :: r, n + 1 => nthC r n
def loopAt (P : Program) (f k : Nat) : Code := match P.funcs[f]? with
  | some fn => match fn.body with
    | some c => nthC (loops c) k
    | none => .skip
  | none => .skip

theorem ob_nil : ∀ p ∈ ([] : List Prop), p := fun p h => by cases h
theorem ob_cons {q : Prop} {l : List Prop} (hq : q) (hl : ∀ p ∈ l, p) : ∀ p ∈ q :: l, p := fun p h => by
  rcases List.mem_cons.1 h with rfl | h
  · exact hq
  · exact hl p h

/-- Obligations as one conjunction. -/
@[reducible] def conjL : List Prop → Prop
  | [] => True
  | p :: r => p ∧ conjL r
theorem cj : ∀ {l : List Prop}, conjL l → ∀ p ∈ l, p
  | [], _, p, h => by cases h
  | q :: r, hq, p, h => by
    rcases List.mem_cons.1 h with rfl | h
    · exact hq.1
    · exact cj hq.2 p h

/-- The first place where a row of truths ends. -/
theorem first_false (p : Nat → Bool) : ∀ n, (∀ i, i < n → p i = true) ∨ ∃ k, k < n ∧ p k = false ∧ ∀ i, i < k → p i = true
  | 0 => .inl (fun i h => by omega)
  | n + 1 => by
    rcases first_false p n with h | ⟨k, h1, h2, h3⟩
    · cases hn : p n with
      | true => exact .inl (fun i hi => by
          by_cases e : i = n
          · rw [e]; exact hn
          · exact h i (by omega))
      | false => exact .inr ⟨n, by omega, hn, h⟩
    · exact .inr ⟨k, by omega, h2, h3⟩

def allB (p : Nat → Bool) : Nat → Bool
  | 0 => true
  | n + 1 => allB p n && p n

theorem allB_iff (p : Nat → Bool) : ∀ n, allB p n = true ↔ ∀ i, i < n → p i = true
  | 0 => by simp [allB]
  | n + 1 => by
    simp only [allB, Bool.and_eq_true, allB_iff p n]
    constructor
    · rintro ⟨h1, h2⟩ i hi
      by_cases e : i = n
      · rw [e]; exact h2
      · exact h1 i (by omega)
    · intro h
      exact ⟨fun i hi => h i (by omega), h n (by omega)⟩

theorem wrap_nat64 (n : Int) (h0 : 0 ≤ n) (h1 : n < 9223372036854775808) : IntKind.i64.wrap n = n := by
  have e : n % 18446744073709551616 = n := Int.emod_eq_of_lt h0 (by omega)
  have h2 : ¬ (9223372036854775808 : Int) ≤ n := by omega
  show (if (true && decide (n % 18446744073709551616 ≥ (9223372036854775808 : Int))) = true then n % 18446744073709551616 - 18446744073709551616 else n % 18446744073709551616) = n
  rw [e]
  simp [h2]

/-- A closed call as a contract. -/
theorem lives_of_run {E : Env} (hE : EnvOk E) {fuel f : Nat} (h : (callF E fuel f [] ⟨[], 0, gnm 0, [], [], [], true⟩).map (fun x => (x.1, x.2.ob)) = some (.bool true, [])) : LocOk E.P f [] [] ⟨0, .bool true, [], 0, [], []⟩ := by
  intro ρ w hob hr hf hg xs hx
  cases hc : callF E fuel f [] ⟨[], 0, gnm 0, [], [], [], true⟩ with
  | none => rw [hc] at h; cases h
  | some y =>
    rw [hc] at h
    simp only [Option.map_some, Option.some.injEq, Prod.mk.injEq] at h
    obtain ⟨v, h1⟩ := y
    obtain ⟨rfl, h2⟩ := h
    exact (closed_ok hE hc h2 rfl ⟨[], 1, gnm 0, [], [], [], false⟩).wp (fun p hp => by cases hp) ρ w hr hf hg xs hx
theorem lives_of_run_s {E : Env} (hE : EnvOk E) {fuel f : Nat} (h : (callF E fuel f [] ⟨[], 0, gnm 0, [], [], [], true⟩).map (fun x => (x.1, x.2.ob)) = some (.symb true, [])) : LocOk E.P f [] [] ⟨0, .bool true, [], 0, [], []⟩ := by
  intro ρ w hob hr hf hg xs hx
  cases hc : callF E fuel f [] ⟨[], 0, gnm 0, [], [], [], true⟩ with
  | none => rw [hc] at h; cases h
  | some y =>
    rw [hc] at h
    simp only [Option.map_some, Option.some.injEq, Prod.mk.injEq] at h
    obtain ⟨v, h1⟩ := y
    obtain ⟨rfl, h2⟩ := h
    refine ((closed_ok hE hc h2 rfl ⟨[], 1, gnm 0, [], [], [], false⟩).wp (fun p hp => by cases hp) ρ w hr hf hg xs hx).mono fun e w' ⟨x, ρ', he, r, hs⟩ => ⟨x, ρ', he, ?_, hs⟩
    exact r.imp (fun h => by cases h) (fun e => by simpa [den] using e)
/-- A map's answer. -/
def mget (M : List Int → Option Int) (k : List Int) : Int := match M k with
  | some n => n
  | none => 0

theorem ob_app {a b : List Prop} (ha : ∀ p ∈ a, p) (hb : ∀ p ∈ b, p) : ∀ p ∈ a ++ b, p := fun p h => (List.mem_append.1 h).elim (ha p) (hb p)

end Go.Ev

/-
  Contracts that ask no more of closed values than of symbolic ones.
-/
set_option linter.unusedSimpArgs false
set_option linter.unusedVariables false
namespace Go.Ev

mutual
def nrmV : AV → AV
  | .int k n => .sym k n
  | .bool b => .symb b
  | .xs wd b o l c => .ss wd b o l c
  | .agg l => .agg (nrmL l)
  | .tup l => .tup (nrmL l)
  | v => v
def nrmL : List AV → List AV
  | [] => []
  | v :: r => nrmV v :: nrmL r
end

mutual
theorem nrmV_den {ρ : Ren} : ∀ (v : AV) (x : Value), den ρ v = some x → den ρ (nrmV v) = some x
  | .top, x, e => e
  | .int .., x, e => e
  | .sym .., x, e => e
  | .bool .., x, e => e
  | .symb .., x, e => e
  | .nilp, x, e => e
  | .ptr .., x, e => e
  | .nils, x, e => e
  | .xs wd b off len c, x, e => by
    simp only [nrmV, den] at e ⊢
    cases hb : ρ b with
    | none => simp [hb] at e
    | some l =>
      rw [hb] at e
      cases hn : l.isnil with
      | true => simp [hn] at e
      | false => simpa [hn] using e
  | .ss .., x, e => e
  | .nilm, x, e => e
  | .map .., x, e => e
  | .nilf, x, e => e
  | .func .., x, e => e
  | .nili, x, e => e
  | .iface .., x, e => e
  | .agg l, x, e => by
    simp only [nrmV, den] at e ⊢
    cases hl : denL ρ l with
    | none => simp [hl] at e
    | some xs => rw [hl] at e; rw [nrmL_den l xs hl]; exact e
  | .tup l, x, e => by
    simp only [nrmV, den] at e ⊢
    cases hl : denL ρ l with
    | none => simp [hl] at e
    | some xs => rw [hl] at e; rw [nrmL_den l xs hl]; exact e
  | .stamp .., x, e => e
  | .raw .., x, e => e
theorem nrmL_den {ρ : Ren} : ∀ (l : List AV) (xs : List Value), denL ρ l = some xs → denL ρ (nrmL l) = some xs
  | [], xs, e => e
  | v :: r, xs, e => by
    simp only [nrmL, denL] at e ⊢
    cases hv : den ρ v with
    | none => simp [hv] at e
    | some y => cases hr : denL ρ r with
      | none => simp [hv, hr] at e
      | some ys => rw [hv, hr] at e; rw [nrmV_den v y hv, nrmL_den r ys hr]; exact e
end

def nrmO : AO → AO
  | .cells wd l => .cells wd (nrmL l)
  | o => o

theorem nrmO_ro (o : AO) : (nrmO o).ro = o.ro := by cases o <;> rfl

theorem nrmL_get : ∀ (l : List AV) (j : Nat) v, (nrmL l)[j]? = some v → ∃ u, l[j]? = some u ∧ v = nrmV u
  | [], j, v, h => by simp [nrmL] at h
  | a :: r, 0, v, h => by simp [nrmL] at h; exact ⟨a, by simp, h.symm⟩
  | a :: r, j + 1, v, h => by simp [nrmL] at h; obtain ⟨u, hu, e⟩ := nrmL_get r j v h; exact ⟨u, by simpa using hu, e⟩
theorem nrmL_length : ∀ l : List AV, (nrmL l).length = l.length
  | [] => rfl
  | a :: r => by simp [nrmL, nrmL_length r]

theorem nrmO_rep {P : Program} {ρ : Ren} {w : World} {l : Loc} {o : AO} (h : ObjRep P ρ w l o) : ObjRep P ρ w l (nrmO o) := by
  cases o with
  | cells wd cs =>
    obtain ⟨h0, h1, h2, c, t, fr, hb, hf, hc, hc2, hv⟩ := h
    refine ⟨h0, h1, h2, c, t, fr, hb, hf, by rw [nrmL_length]; exact hc, hc2, fun j v hj => ?_⟩
    obtain ⟨u, hu, rfl⟩ := nrmL_get cs j v hj
    obtain ⟨x, hx, hr⟩ := hv j u hu
    refine ⟨x, hx, ?_⟩
    rcases hr with hr | hr
    · subst hr; exact .inl rfl
    · exact .inr (nrmV_den u x hr)
  | arr wd sh ro len f => exact h
  | map t f => exact h
  | mapP t f n k => exact h

def nrmH : List (Nat × AO) → List (Nat × AO)
  | [] => []
  | (n, o) :: r => (n, nrmO o) :: nrmH r

theorem nrmH_get : ∀ (h : List (Nat × AO)) (n : Nat) o, get (nrmH h) n = some o → ∃ o1, get h n = some o1 ∧ o = nrmO o1
  | [], n, o, e => by simp [nrmH, get] at e
  | (m, x) :: r, n, o, e => by
    simp only [nrmH, get] at e ⊢
    split at e
    · cases e; exact ⟨x, rfl, rfl⟩
    · exact nrmH_get r n o e
theorem nrmH_get' : ∀ (h : List (Nat × AO)) (n : Nat) o, get h n = some o → get (nrmH h) n = some (nrmO o)
  | [], n, o, e => by simp [get] at e
  | (m, x) :: r, n, o, e => by
    simp only [nrmH, get] at e ⊢
    split at e
    · cases e; rfl
    · exact nrmH_get' r n o e

theorem loc_nrm {P : Program} {f : FuncId} {la : List AV} {lh : List (Nat × AO)} {R : LR} (h : LocOk P f (nrmL la) (nrmH lh) R) : LocOk P f la lh R := by
  intro ρ w hob hr hf hg xs hx
  have hr' : HeapRep P ρ (nrmH lh) w := by
    refine ⟨fun n o e => ?_, fun n m o o' l l' e e' hne hro => ?_⟩
    · obtain ⟨o1, h1, rfl⟩ := nrmH_get _ _ _ e
      obtain ⟨l, hl, ho⟩ := hr.1 n o1 h1
      exact ⟨l, hl, nrmO_rep ho⟩
    · obtain ⟨o1, h1, rfl⟩ := nrmH_get _ _ _ e
      obtain ⟨o2, h2, rfl⟩ := nrmH_get _ _ _ e'
      rw [nrmO_ro, nrmO_ro] at hro
      exact hr.2 n m o1 o2 l l' h1 h2 hne hro
  refine (h ρ w hob hr' hf hg xs (nrmL_den _ _ hx)).mono fun e w' ⟨x, ρ', he, hv, st⟩ => ⟨x, ρ', he, hv, ?_⟩
  refine ⟨st.le, st.new, st.rep, st.fr.mono ?_, fun n o l h1 h2 h3 h4 => ?_⟩
  · rintro b ⟨m, hm, o, l, e1, e2, e3⟩
    obtain ⟨o1, h1, rfl⟩ := nrmH_get _ _ _ e1
    rw [nrmO_ro] at e2
    exact ⟨m, hm, o1, l, h1, e2, e3⟩
  · obtain ⟨m, o', l', e1, e2, e3⟩ := st.own n o l h1 h2 h3 h4
    obtain ⟨o1, g1, rfl⟩ := nrmH_get _ _ _ e1
    rw [nrmO_ro] at e2
    exact ⟨m, o1, l', g1, e2, e3⟩

/-- A contract over normal forms, for all. -/
def nrm (s : LSpec) : LSpec := fun la lh => s (nrmL la) (nrmH lh)

theorem nrm_ok {P : Program} {f : FuncId} {s : LSpec} (h : ∀ la lh R, s la lh = some R → LocOk P f la lh R) : ∀ la lh R, nrm s la lh = some R → LocOk P f la lh R :=
  fun la lh R e => loc_nrm (h _ _ R e)

end Go.Ev

/-
  Plain facts for contracts: searching, counting, numbers.
-/
set_option linter.unusedSimpArgs false
set_option linter.unusedVariables false
namespace Go.Ev

/-- The first place below n at which p holds, else n. -/
def fnd (p : Nat → Bool) : Nat → Nat
  | 0 => 0
  | n + 1 => if fnd p n < n then fnd p n else if p n = true then n else n + 1
theorem fnd_le (p : Nat → Bool) : ∀ n, fnd p n ≤ n
  | 0 => Nat.le_refl _
  | n + 1 => by have := fnd_le p n; simp only [fnd]; split <;> (try split) <;> omega
theorem fnd_none {p : Nat → Bool} : ∀ {n : Nat}, (∀ j, j < n → p j = false) → fnd p n = n
  | 0, _ => rfl
  | n + 1, h => by
    have := fnd_none (p := p) (n := n) (fun j hj => h j (by omega))
    simp [fnd, this, h n (by omega)]
theorem fnd_eq {p : Nat → Bool} {i : Nat} : ∀ {n : Nat}, i < n → p i = true → (∀ j, j < i → p j = false) → fnd p n = i
  | 0, h, _, _ => by omega
  | n + 1, h, hp, hb => by
    by_cases e : i = n
    · subst e
      have := fnd_none hb
      simp [fnd, this, hp]
    · have := fnd_eq (n := n) (by omega) hp hb
      simp [fnd, this]; omega
theorem first_true (p : Nat → Bool) (n : Nat) : (∀ i, i < n → p i = false) ∨ ∃ k, k < n ∧ p k = true ∧ ∀ i, i < k → p i = false := by
  rcases first_false (fun i => !p i) n with h | ⟨k, h1, h2, h3⟩
  · exact .inl (fun i hi => by simpa using h i hi)
  · exact .inr ⟨k, h1, by simpa using h2, fun i hi => by simpa using h3 i hi⟩
theorem fnd_spec {p : Nat → Bool} {n : Nat} (h : fnd p n < n) : p (fnd p n) = true ∧ ∀ j, j < fnd p n → p j = false := by
  rcases first_true p n with h1 | ⟨k, h1, h2, h3⟩
  · rw [fnd_none h1] at h; omega
  · rw [fnd_eq h1 h2 h3]; exact ⟨h2, h3⟩
theorem fnd_no {p : Nat → Bool} {n : Nat} (h : ¬ fnd p n < n) : ∀ j, j < n → p j = false := by
  rcases first_true p n with h1 | ⟨k, h1, h2, h3⟩
  · exact h1
  · rw [fnd_eq h1 h2 h3] at h; omega

/-- What is found at the first place, else another. -/
def srch (p : Nat → Bool) (n : Nat) (v : Nat → Int) (v0 : Int) : Int := if fnd p n < n then v (fnd p n) else v0
def srchB (p : Nat → Bool) (n : Nat) : Bool := decide (fnd p n < n)
theorem srch_at {p : Nat → Bool} {n k : Nat} {v : Nat → Int} {v0 : Int} (h1 : k < n) (h2 : p k = true) (h3 : ∀ i, i < k → p i = false) : srch p n v v0 = v k := by
  unfold srch; rw [fnd_eq h1 h2 h3, if_pos h1]
theorem srch_no {p : Nat → Bool} {n : Nat} {v : Nat → Int} {v0 : Int} (h : ∀ i, i < n → p i = false) : srch p n v v0 = v0 := by
  unfold srch; rw [fnd_none h, if_neg (Nat.lt_irrefl _)]
theorem srchB_at {p : Nat → Bool} {n k : Nat} (h1 : k < n) (h2 : p k = true) (h3 : ∀ i, i < k → p i = false) : srchB p n = true := by
  unfold srchB; rw [fnd_eq h1 h2 h3]; exact decide_eq_true h1
theorem srchB_no {p : Nat → Bool} {n : Nat} (h : ∀ i, i < n → p i = false) : srchB p n = false := by
  unfold srchB; rw [fnd_none h]; exact decide_eq_false (Nat.lt_irrefl _)
theorem srch_congr {p q : Nat → Bool} {n : Nat} {v w : Nat → Int} {v0 : Int} (h : ∀ i, i < n → p i = q i) (hv : ∀ i, i < n → v i = w i) : srch p n v v0 = srch q n w v0 := by
  rcases first_true p n with h1 | ⟨k, h1, h2, h3⟩
  · rw [srch_no h1, srch_no (fun i hi => by rw [← h i hi]; exact h1 i hi)]
  · rw [srch_at h1 h2 h3, srch_at h1 (by rw [← h k h1]; exact h2) (fun i hi => by rw [← h i (by omega)]; exact h3 i hi), hv k h1]

theorem and2_eq (a b : Bool) : and2 a b = (a && b) := by cases a <;> rfl
theorem u64m (x : Int) : IntKind.u64.wrap x = x % 18446744073709551616 := by
  simp [IntKind.wrap, IntKind.signed, IntKind.bits]
theorem u64r (x : Int) : 0 ≤ IntKind.u64.wrap x ∧ IntKind.u64.wrap x < 18446744073709551616 := by rw [u64m]; omega
theorem u64w {x : Int} (h0 : 0 ≤ x) (h1 : x < 18446744073709551616) : IntKind.u64.wrap x = x := by rw [u64m]; omega
theorem u8m (x : Int) : IntKind.u8.wrap x = x % 256 := by
  simp [IntKind.wrap, IntKind.signed, IntKind.bits]
theorem i64w {x : Int} (h0 : -9223372036854775808 ≤ x) (h1 : x < 9223372036854775808) : IntKind.i64.wrap x = x := by
  show (if (true && decide (x % 18446744073709551616 ≥ (9223372036854775808 : Int))) = true then x % 18446744073709551616 - 18446744073709551616 else x % 18446744073709551616) = x
  by_cases h : x % 18446744073709551616 ≥ 9223372036854775808
  · rw [if_pos (by simpa using h)]; omega
  · rw [if_neg (by simpa using h)]; omega

/-- A law's ways. -/
def Runs (run : List Hint → Option (AV × List Prop × Bool)) : Prop := ∃ h v ob, run h = some (v, ob, true) ∧ isTrue v ∧ ∀ p ∈ ob, p
theorem goodB {P : Program} (h1 : P.follows .mixedOrders = true) (h2 : P.funcs.toList.all (fun fn => !fn.body.isSome || !(fn.name == "runtime.NumGoroutine")) = true) : Good P where
  mixed := h1
  names := fun f fn h h3 => by
    have hm : fn ∈ P.funcs.toList := by
      obtain ⟨hlt, rfl⟩ := Array.getElem?_eq_some_iff.1 h
      simp
    have := List.all_eq_true.1 h2 fn hm
    simpa [h3] using this
theorem eq_no {b : Bool} : ((b == b) == false) = false := by cases b <;> rfl
theorem avI_s (k : IntKind) (n : Int) : avInt (.sym k n) = n := rfl
theorem avI_i (k : IntKind) (n : Int) : avInt (.int k n) = n := rfl
theorem avB_s (b : Bool) : avBool (.symb b) = b := rfl
theorem avB_b (b : Bool) : avBool (.bool b) = b := rfl
theorem u8_range {n : Int} (h : (Lit.int .u8 n).wf = true) : 0 ≤ n ∧ n < 256 := by
  simp [Lit.wf, IntKind.min, IntKind.max, IntKind.bits, IntKind.signed] at h; omega
theorem u16_range {n : Int} (h : (Lit.int .u16 n).wf = true) : 0 ≤ n ∧ n < 65536 := by
  simp [Lit.wf, IntKind.min, IntKind.max, IntKind.bits, IntKind.signed] at h; omega
theorem u32_range {n : Int} (h : (Lit.int .u32 n).wf = true) : 0 ≤ n ∧ n < 4294967296 := by
  simp [Lit.wf, IntKind.min, IntKind.max, IntKind.bits, IntKind.signed] at h; omega
theorem i64_range {n : Int} (h : (Lit.int .i64 n).wf = true) : -9223372036854775808 ≤ n ∧ n < 9223372036854775808 := by
  simp [Lit.wf, IntKind.min, IntKind.max, IntKind.bits, IntKind.signed] at h; omega
end Go.Ev

/-
  An environment out of contracts, some of which a hint chooses.
-/
set_option linter.unusedSimpArgs false
set_option linter.unusedVariables false
namespace Go.Ev
abbrev SP := List AV → Hp → Option (AV × Hp)
def SPOk (P : Program) (f : FuncId) (g : SP) : Prop := ∀ args h v h', g args h = some (v, h') → CaOk P f args h v h'
abbrev SpecOk (P : Program) (f : FuncId) (s : LSpec) : Prop := ∀ la lh R, s la lh = some R → LocOk P f la lh R
def locSP (s : LSpec) : SP := applyLoc (nrm s)
theorem locSP_ok {P : Program} {f : FuncId} {s : LSpec} (h : SpecOk P f s) : SPOk P f (locSP s) := fun _ _ _ _ e => applyLoc_ok (nrm_ok h) e
/-- As the evaluator has it, closed values as they are. -/
def rawSP (s : LSpec) : SP := applyLoc s
theorem rawSP_ok {P : Program} {f : FuncId} {s : LSpec} (h : SpecOk P f s) : SPOk P f (rawSP s) := fun _ _ _ _ e => applyLoc_ok h e
def altSP (s t : LSpec) : SP := fun args h => match h.hints with
  | .b c :: r => match c with
    | true => applyLoc (nrm s) args { h with hints := r }
    | false => applyLoc (nrm t) args { h with hints := r }
  | _ => none
theorem altSP_ok {P : Program} {f : FuncId} {s t : LSpec} (hs : SpecOk P f s) (ht : SpecOk P f t) : SPOk P f (altSP s t) := by
  intro args h v h' e
  unfold altSP at e
  split at e
  · rename_i c r hr
    split at e
    · have o := applyLoc_ok (nrm_ok hs) e
      exact ⟨⟨o.mono.ob, o.mono.nxt, o.mono.hi, o.mono.wr⟩, fun ho ρ w hr hf hg xs hx => (o.wp ho ρ w hr hf hg xs hx).mono fun e w' ⟨x, ρ', a, b, c⟩ => ⟨x, ρ', a, b, ⟨c.le, c.new, c.rep, c.fr, c.own⟩⟩⟩
    · have o := applyLoc_ok (nrm_ok ht) e
      exact ⟨⟨o.mono.ob, o.mono.nxt, o.mono.hi, o.mono.wr⟩, fun ho ρ w hr hf hg xs hx => (o.wp ho ρ w hr hf hg xs hx).mono fun e w' ⟨x, ρ', a, b, c⟩ => ⟨x, ρ', a, b, ⟨c.le, c.new, c.rep, c.fr, c.own⟩⟩⟩
  · cases e
def orSP (a b : SP) : SP := fun args h => match a args h with
  | some x => some x
  | none => b args h
theorem orSP_ok {P : Program} {f : FuncId} {a b : SP} (ha : SPOk P f a) (hb : SPOk P f b) : SPOk P f (orSP a b) := by
  intro args h v h' e
  unfold orSP at e
  split at e
  · rename_i x hx; cases e; exact ha _ _ _ _ hx
  · exact hb _ _ _ _ e
def spOf : List (FuncId × SP) → FuncId → Option SP
  | [], _ => none
  | (g, s) :: r, f => match Nat.beq g f with
    | true => some s
    | false => spOf r f
def SPsOk (P : Program) : List (FuncId × SP) → Prop
  | [] => True
  | (g, s) :: r => SPOk P g s ∧ SPsOk P r
theorem spOf_ok {P : Program} : ∀ (l : List (FuncId × SP)), SPsOk P l → ∀ f g, spOf l f = some g → SPOk P f g
  | [], _, f, g, e => by cases e
  | (q, s) :: r, ok, f, g, e => by
    simp only [spOf] at e
    split at e
    · rename_i hq
      have hq := Nat.eq_of_beq_eq_true hq; subst hq
      cases e
      exact ok.1
    · exact spOf_ok r ok.2 f g e
def envG (P : Program) (l : List (FuncId × SP)) : Env := ⟨P, spOf l, LoopHolds P⟩
theorem envG_ok {P : Program} (G : Good P) {l : List (FuncId × SP)} (ok : SPsOk P l) : EnvOk (envG P l) :=
  ⟨G, fun _ _ _ _ h => h, spOf_ok l ok⟩
end Go.Ev

/-
  Memories: the program's (a map), the document's (a list of words): definitions and plain facts.
-/
set_option linter.unusedSimpArgs false
set_option linter.unusedVariables false
namespace Go.Ev

structure Wd where
  k : Int
  a : Int
  f : Int
  v : Int
def wSh : List CK := [.int .u8, .int .i64, .int .i64, .int .u64]
def wdOf (r : Nat → AV) : Wd := ⟨avInt (r 0), avInt (r 1), avInt (r 2), avInt (r 3)⟩
def wdR (w : Wd) : Nat → AV := fun j => match j with
  | 0 => .sym .u8 w.k
  | 1 => .sym .i64 w.a
  | 2 => .sym .i64 w.f
  | 3 => .sym .u64 w.v
  | _ => .top
def wdF (W : Nat → Wd) : Nat → Nat → AV := fun i j => wdR (W i) j
theorem row_wd {f : Nat → AV} {w : Wd} (h : wdOf f = w) : rowOb wSh 0 f (wdR w) := by
  subst h; exact ⟨rfl, rfl, rfl, rfl, trivial⟩

/-- The kind's numbers: how many At, how many fields. -/
def kAt (k : Int) : Int := if k = 6 then 32 else if k = 7 then 4 else if k = 8 then 16 else if k = 9 then 256 else if k = 10 then 9 else 1
def kFl (k : Int) : Int := if k = 6 then 2 else if k = 8 then 10 else if k = 9 then 8 else if k = 11 then 2 else 1
def mayA (k a f : Int) : Bool := decide (k ≤ 11 ∧ 0 ≤ a ∧ a < kAt k ∧ 0 ≤ f ∧ f < kFl k)
def mayR (k a f : Int) : LR := ⟨0, .symb (mayA k a f), [], 0, [], [0 ≤ k]⟩
def key (k a f : Int) : List Int := [k, a, f]
def memPut (M : List Int → Option Int) (k a f v : Int) : List Int → Option Int := match mayA k a f with
  | true => setKey M (key k a f) (some v)
  | false => M
def memIs (M : List Int → Option Int) (k a f v : Int) : Int := match mayA k a f with
  | true => v
  | false => mget M (key k a f)
theorem setKey2 (M : List Int → Option Int) (k : List Int) (a b : Option Int) : setKey (setKey M k a) k b = setKey M k b := by
  funext q
  simp only [setKey]
  split <;> rfl
def casD (M : List Int → Option Int) (k a f w : Int) : Bool := match mget M (key k a f) == w with
  | true => mayA k a f
  | false => false
def casM (M : List Int → Option Int) (k a f w v : Int) : List Int → Option Int := match casD M k a f w with
  | true => setKey M (key k a f) (some v)
  | false => M
def casI (M : List Int → Option Int) (k a f w v : Int) : Int := match casD M k a f w with
  | true => v
  | false => mget M (key k a f)
def lastL (c k a f w i : Int) (d : Bool) : List AV := [.sym .u8 c, .sym .u8 k, .sym .i64 a, .sym .i64 f, .sym .u64 w, .sym .u64 i, .symb d]

/-! ### the document's memory -/
structure DM where
  n : Nat
  W : Nat → Wd
def dOf (n : Nat) (g : Nat → Nat → AV) : DM := ⟨n, fun i => wdOf (g i)⟩
def hit (w : Wd) (k a f : Int) : Bool := and2 (w.k == k) (and2 (w.a == a) (and2 (w.f == f) true))
def dAt (D : DM) (k a f : Int) : Nat := fnd (fun i => hit (D.W (0 + i)) k a f) D.n
def dWord (D : DM) (k a f : Int) : Int := srch (fun i => hit (D.W (0 + i)) k a f) D.n (fun i => (D.W (0 + i)).v) 0
def dSet (D : DM) (j : Nat) (v : Int) : DM := ⟨D.n, fun i => if i = j then ⟨(D.W i).k, (D.W i).a, (D.W i).f, v⟩ else D.W i⟩
def dAdd (D : DM) (k a f v : Int) : DM := ⟨D.n + 1, fun i => if i < D.n then D.W i else ⟨k, a, f, v⟩⟩
def dPut (D : DM) (k a f v : Int) : DM := match mayA k a f with
  | false => D
  | true => match Nat.blt (dAt D k a f) D.n with
    | true => dSet D (dAt D k a f) v
    | false => dAdd D k a f v
def dCasD (D : DM) (k a f w : Int) : Bool := match dWord D k a f == w with
  | true => mayA k a f
  | false => false
def dCasM (D : DM) (k a f w v : Int) : DM := match dCasD D k a f w with
  | true => dPut D k a f v
  | false => D

theorem hit_iff {w : Wd} {k a f : Int} : hit w k a f = true ↔ w.k = k ∧ w.a = a ∧ w.f = f := by
  simp [hit, and2_eq]
theorem dOf_wdF (D : DM) : dOf D.n (wdF D.W) = D := rfl
theorem dPut_may {D : DM} {k a f v : Int} (h : mayA k a f = false) : dPut D k a f v = D := by simp [dPut, h]
theorem dPut_at {D : DM} {k a f v : Int} {j : Nat} (h : mayA k a f = true) (hj : j < D.n) (h2 : hit (D.W (0 + j)) k a f = true) (h3 : ∀ i, i < j → hit (D.W (0 + i)) k a f = false) : dPut D k a f v = dSet D j v := by
  have e : dAt D k a f = j := fnd_eq hj h2 h3
  have b : Nat.blt j D.n = true := by simpa [Nat.blt_eq] using hj
  simp only [dPut, h, e, b]
theorem dPut_no {D : DM} {k a f v : Int} (h : mayA k a f = true) (h3 : ∀ i, i < D.n → hit (D.W (0 + i)) k a f = false) : dPut D k a f v = dAdd D k a f v := by
  have e : dAt D k a f = D.n := fnd_none h3
  have b : Nat.blt D.n D.n = false := by
    cases hb : Nat.blt D.n D.n with
    | false => rfl
    | true => simp [Nat.blt_eq] at hb
  simp only [dPut, h, e, b]
theorem dPut_n (D : DM) (k a f v : Int) : (dPut D k a f v).n ≤ D.n + 1 ∧ D.n ≤ (dPut D k a f v).n := by
  unfold dPut
  split
  · exact ⟨by omega, by omega⟩
  · split
    · exact ⟨by simp [dSet], by simp [dSet]⟩
    · exact ⟨by simp [dAdd], by simp [dAdd]⟩

theorem dWord_at {D : DM} {k a f : Int} {j : Nat} (hj : j < D.n) (h2 : hit (D.W (0 + j)) k a f = true) (h3 : ∀ i, i < j → hit (D.W (0 + i)) k a f = false) : dWord D k a f = (D.W (0 + j)).v := srch_at hj h2 h3
theorem dWord_no {D : DM} {k a f : Int} (h3 : ∀ i, i < D.n → hit (D.W (0 + i)) k a f = false) : dWord D k a f = 0 := srch_no h3
theorem first_hit (D : DM) (k a f : Int) : (∀ i, i < D.n → hit (D.W (0 + i)) k a f = false) ∨ ∃ j, j < D.n ∧ hit (D.W (0 + j)) k a f = true ∧ ∀ i, i < j → hit (D.W (0 + i)) k a f = false := first_true _ _

theorem dWord_set {D : DM} {k a f v k' a' f' : Int} {j : Nat} (hj : j < D.n) (h2 : hit (D.W (0 + j)) k a f = true) (h3 : ∀ i, i < j → hit (D.W (0 + i)) k a f = false) :
    dWord (dSet D j v) k' a' f' = if k' = k ∧ a' = a ∧ f' = f then v else dWord D k' a' f' := by
  have hh : ∀ i, hit ((dSet D j v).W (0 + i)) k' a' f' = hit (D.W (0 + i)) k' a' f' := by
    intro i
    simp only [dSet, Nat.zero_add]
    split <;> rfl
  obtain ⟨e1, e2, e3⟩ := hit_iff.1 h2
  by_cases hk : k' = k ∧ a' = a ∧ f' = f
  · rw [if_pos hk]
    obtain ⟨rfl, rfl, rfl⟩ := hk
    rw [dWord_at (D := dSet D j v) hj (by rw [hh]; exact h2) (fun i hi => by rw [hh]; exact h3 i hi)]
    simp [dSet]
  · rw [if_neg hk]
    rcases first_hit D k' a' f' with h | ⟨i, q1, q2, q3⟩
    · rw [dWord_no h, dWord_no (D := dSet D j v) (fun i hi => by rw [hh]; exact h i hi)]
    · rw [dWord_at q1 q2 q3, dWord_at (D := dSet D j v) q1 (by rw [hh]; exact q2) (fun l hl => by rw [hh]; exact q3 l hl)]
      have : i ≠ j := fun e => by
        subst e
        obtain ⟨z1, z2, z3⟩ := hit_iff.1 q2
        exact hk ⟨z1.symm.trans e1, z2.symm.trans e2, z3.symm.trans e3⟩
      simp [dSet, this]
theorem dWord_add {D : DM} {k a f v k' a' f' : Int} (h3 : ∀ i, i < D.n → hit (D.W (0 + i)) k a f = false) :
    dWord (dAdd D k a f v) k' a' f' = if k' = k ∧ a' = a ∧ f' = f then v else dWord D k' a' f' := by
  have hh : ∀ i, i < D.n → (dAdd D k a f v).W (0 + i) = D.W (0 + i) := by
    intro i hi
    simp only [dAdd, Nat.zero_add]
    rw [if_pos hi]
  have hl : (dAdd D k a f v).W (0 + D.n) = ⟨k, a, f, v⟩ := by simp [dAdd]
  by_cases hk : k' = k ∧ a' = a ∧ f' = f
  · rw [if_pos hk]
    obtain ⟨rfl, rfl, rfl⟩ := hk
    rw [dWord_at (D := dAdd D k' a' f' v) (j := D.n) (by simp [dAdd]) (by rw [hl]; exact hit_iff.2 ⟨rfl, rfl, rfl⟩) (fun i hi => by rw [hh i hi]; exact h3 i hi), hl]
  · rw [if_neg hk]
    rcases first_hit D k' a' f' with h | ⟨i, q1, q2, q3⟩
    · rw [dWord_no h, dWord_no (D := dAdd D k a f v) (fun i hi => by
        by_cases e : i < D.n
        · rw [hh i e]; exact h i e
        · have : i = D.n := by simp [dAdd] at hi; omega
          subst this
          rw [hl]
          cases hq : hit (⟨k, a, f, v⟩ : Wd) k' a' f' with
          | false => rfl
          | true => obtain ⟨z1, z2, z3⟩ := hit_iff.1 hq; exact (hk ⟨z1.symm, z2.symm, z3.symm⟩).elim)]
    · rw [dWord_at q1 q2 q3, dWord_at (D := dAdd D k a f v) (j := i) (by simp [dAdd]; omega) (by rw [hh i q1]; exact q2) (fun l hl => by rw [hh l (by omega)]; exact q3 l hl), hh i q1]
theorem dWord_put (D : DM) (k a f v k' a' f' : Int) : dWord (dPut D k a f v) k' a' f' = if mayA k a f = true ∧ k' = k ∧ a' = a ∧ f' = f then v else dWord D k' a' f' := by
  cases hm : mayA k a f with
  | false => rw [dPut_may hm]; simp
  | true =>
    rcases first_hit D k a f with h | ⟨j, q1, q2, q3⟩
    · rw [dPut_no hm h, dWord_add h]; simp
    · rw [dPut_at hm q1 q2 q3, dWord_set q1 q2 q3]; simp
theorem key_inj {k a f k' a' f' : Int} (h : key k a f = key k' a' f') : k = k' ∧ a = a' ∧ f = f' := by
  simpa [key] using h
theorem mget_set (M : List Int → Option Int) (k a f v k' a' f' : Int) : mget (setKey M (key k a f) (some v)) (key k' a' f') = if k' = k ∧ a' = a ∧ f' = f then v else mget M (key k' a' f') := by
  by_cases h : k' = k ∧ a' = a ∧ f' = f
  · obtain ⟨rfl, rfl, rfl⟩ := h
    simp [mget, setKey]
  · rw [if_neg h]
    have : key k' a' f' ≠ key k a f := fun e => h (key_inj e)
    simp [mget, setKey, this]
theorem mget_put (M : List Int → Option Int) (k a f v k' a' f' : Int) : mget (memPut M k a f v) (key k' a' f') = if mayA k a f = true ∧ k' = k ∧ a' = a ∧ f' = f then v else mget M (key k' a' f') := by
  cases hm : mayA k a f with
  | false => simp [memPut, hm]
  | true => simp only [memPut, hm, mget_set]; simp
theorem memIs_put (M : List Int → Option Int) (k a f v : Int) : memIs M k a f v = mget (memPut M k a f v) (key k a f) := by
  rw [mget_put]
  unfold memIs
  cases hm : mayA k a f <;> simp
theorem casM_put (M : List Int → Option Int) (k a f w v : Int) : casM M k a f w v = if casD M k a f w = true then memPut M k a f v else M := by
  unfold casM
  cases hc : casD M k a f w with
  | false => simp
  | true =>
    have hm : mayA k a f = true := by
      unfold casD at hc
      split at hc
      · exact hc
      · cases hc
    simp [memPut, hm]
theorem casI_eq (M : List Int → Option Int) (k a f w v : Int) : casI M k a f w v = mget (casM M k a f w v) (key k a f) := by
  unfold casI casM
  split
  · rw [mget_set]; simp
  · rfl

/-- Both memories have the same words. -/
def Agr (M : List Int → Option Int) (D : DM) : Prop := ∀ k a f, mget M (key k a f) = dWord D k a f
theorem Agr.put {M : List Int → Option Int} {D : DM} (h : Agr M D) (k a f v : Int) : Agr (memPut M k a f v) (dPut D k a f v) := fun k' a' f' => by
  rw [mget_put, dWord_put, h]
theorem Agr.is {M : List Int → Option Int} {D : DM} (h : Agr M D) (k a f v : Int) : memIs M k a f v = dWord (dPut D k a f v) k a f := by
  rw [memIs_put, h.put]
theorem Agr.casD {M : List Int → Option Int} {D : DM} (h : Agr M D) (k a f w : Int) : Go.Ev.casD M k a f w = dCasD D k a f w := by
  unfold Go.Ev.casD dCasD
  rw [h]
theorem Agr.cas {M : List Int → Option Int} {D : DM} (h : Agr M D) (k a f w v : Int) : Agr (casM M k a f w v) (dCasM D k a f w v) := by
  rw [casM_put, h.casD]
  unfold dCasM
  cases hc : dCasD D k a f w with
  | false => simpa using h
  | true => simpa using h.put k a f v
theorem Agr.casI {M : List Int → Option Int} {D : DM} (h : Agr M D) (k a f w v : Int) : Go.Ev.casI M k a f w v = dWord (dCasM D k a f w v) k a f := by
  rw [casI_eq, h.cas]
theorem Agr.nil : Agr (fun _ => none) ⟨0, fun _ => ⟨0, 0, 0, 0⟩⟩ := fun k a f => by
  rw [dWord_no (fun i hi => absurd hi (Nat.not_lt_zero i))]; rfl

/-- A pair of memories. -/
structure LS where
  c : Int
  k : Int
  a : Int
  f : Int
  w : Int
  i : Int
  d : Bool
def LS.l (x : LS) : List AV := lastL x.c x.k x.a x.f x.w x.i x.d
structure MS where
  M : List Int → Option Int
  st : Int
  L : LS
structure RS where
  D : DM
  st : Int
  L : LS
def mStore (S : MS) (k a f v : Int) : MS := ⟨memPut S.M k a f v, IntKind.i64.wrap (S.st + 1), ⟨2, k, a, f, mget S.M (key k a f), memIs S.M k a f v, false⟩⟩
def mLoad (S : MS) (k a f : Int) : MS := ⟨S.M, IntKind.i64.wrap (S.st + 1), ⟨1, k, a, f, mget S.M (key k a f), mget S.M (key k a f), false⟩⟩
def mCas (S : MS) (k a f w v : Int) : MS := ⟨casM S.M k a f w v, IntKind.i64.wrap (S.st + 1), ⟨3, k, a, f, mget S.M (key k a f), casI S.M k a f w v, casD S.M k a f w⟩⟩
def rStore (S : RS) (k a f v : Int) : RS := ⟨dPut S.D k a f v, IntKind.i64.wrap (S.st + 1), ⟨2, k, a, f, dWord S.D k a f, dWord (dPut S.D k a f v) k a f, false⟩⟩
def rLoad (S : RS) (k a f : Int) : RS := ⟨S.D, IntKind.i64.wrap (S.st + 1), ⟨1, k, a, f, dWord S.D k a f, dWord S.D k a f, false⟩⟩
def rCas (S : RS) (k a f w v : Int) : RS := ⟨dCasM S.D k a f w v, IntKind.i64.wrap (S.st + 1), ⟨3, k, a, f, dWord S.D k a f, dWord (dCasM S.D k a f w v) k a f, dCasD S.D k a f w⟩⟩
structure Both (S : MS) (R : RS) : Prop where
  agr : Agr S.M R.D
  st : S.st = R.st
  L : S.L = R.L
theorem Both.store {S : MS} {R : RS} (h : Both S R) (k a f v : Int) : Both (mStore S k a f v) (rStore R k a f v) :=
  ⟨h.agr.put k a f v, by simp [mStore, rStore, h.st], by simp [mStore, rStore, h.agr k a f, h.agr.is]⟩
theorem Both.load {S : MS} {R : RS} (h : Both S R) (k a f : Int) : Both (mLoad S k a f) (rLoad R k a f) :=
  ⟨h.agr, by simp [mLoad, rLoad, h.st], by simp [mLoad, rLoad, h.agr k a f]⟩
theorem Both.cas {S : MS} {R : RS} (h : Both S R) (k a f w v : Int) : Both (mCas S k a f w v) (rCas R k a f w v) :=
  ⟨h.agr.cas k a f w v, by simp [mCas, rCas, h.st], by simp [mCas, rCas, h.agr k a f, h.agr.casI, h.agr.casD]⟩
def ms0 : MS := ⟨fun _ => none, 0, ⟨0, 0, 0, 0, 0, 0, false⟩⟩
def rs0 : RS := ⟨⟨0, fun _ => ⟨0, 0, 0, 0⟩⟩, 0, ⟨0, 0, 0, 0, 0, 0, false⟩⟩
theorem Both.nil : Both ms0 rs0 := ⟨Agr.nil, rfl, rfl⟩
def msN (W : Nat → Wd) : Nat → MS
  | 0 => ms0
  | n + 1 => mStore (msN W n) (W (0 + n)).k (W (0 + n)).a (W (0 + n)).f (W (0 + n)).v
def rsN (W : Nat → Wd) : Nat → RS
  | 0 => rs0
  | n + 1 => rStore (rsN W n) (W (0 + n)).k (W (0 + n)).a (W (0 + n)).f (W (0 + n)).v
theorem bothN (W : Nat → Wd) : ∀ n, Both (msN W n) (rsN W n)
  | 0 => Both.nil
  | n + 1 => (bothN W n).store ..
theorem rsN_n (W : Nat → Wd) : ∀ n, (rsN W n).D.n ≤ n
  | 0 => Nat.le_refl _
  | n + 1 => by
    have := (dPut_n (rsN W n).D (W (0 + n)).k (W (0 + n)).a (W (0 + n)).f (W (0 + n)).v).1
    have := rsN_n W n
    show (dPut (rsN W n).D _ _ _ _).n ≤ n + 1
    omega
end Go.Ev
