/-
  A region that draws its order: whatever order comes, it goes as in the text.
-/
import Derived.Test.YtmndhjodbnojdaaDoorEvEntry
set_option linter.unusedSimpArgs false
set_option linter.unusedVariables false
namespace Go.Ev

/-! ### what stands somewhere behind some operations -/
def cur {X C : Type} (init : X → C) (wr : Nat → X → Option C) (S : Nat → Bool) : Nat → X → C
  | 0, x => init x
  | i + 1, x => match S i with
    | true => (match wr i x with
      | some c => c
      | none => cur init wr S i x)
    | false => cur init wr S i x

section
variable {X C : Type} {init : X → C} {wr : Nat → X → Option C} {S : Nat → Bool} {x : X}

theorem cur_above : ∀ (n i : Nat), i ≤ n → (∀ k, i ≤ k → k < n → S k = true → wr k x = none) → cur init wr S n x = cur init wr S i x
  | 0, i, hi, _ => by have : i = 0 := by omega
                      subst this; rfl
  | n + 1, i, hi, h => by
    by_cases he : i = n + 1
    · subst he; rfl
    · have ih := cur_above n i (by omega) (fun k h1 h2 h3 => h k h1 (by omega) h3)
      simp only [cur]
      split
      · rename_i hs; rw [h n (by omega) (by omega) hs]; exact ih
      · exact ih

theorem cur_below : ∀ (i : Nat), (∀ k, k < i → S k = false → wr k x = none) → cur init wr S i x = cur init wr (fun _ => true) i x
  | 0, _ => rfl
  | i + 1, h => by
    have ih := cur_below i (fun k hk => h k (by omega))
    simp only [cur]
    split
    · rename_i hs
      split
      · rfl
      · exact ih
    · rename_i hs; rw [h i (by omega) hs]; exact ih

theorem cur_none (h : ∀ k, S k = false) : ∀ n, cur init wr S n x = init x
  | 0 => rfl
  | n + 1 => by simp only [cur, h n]; exact cur_none h n

theorem cur_congr {S' : Nat → Bool} : ∀ (n : Nat), (∀ k, k < n → S k = S' k) → cur init wr S n x = cur init wr S' n x
  | 0, _ => rfl
  | n + 1, h => by simp only [cur, ← h n (by omega), cur_congr n (fun k hk => h k (by omega))]

theorem cur_add {i : Nat} (S' : Nat → Bool) (hS : ∀ k, S' k = if k = i then true else S k) : ∀ (n : Nat), i < n → (∀ k, i < k → k < n → S k = true → wr i x ≠ none → wr k x = none) →
    cur init wr S' n x = (match wr i x with
      | some c => c
      | none => cur init wr S n x) ∨ S i = true
  | 0, h, _ => by omega
  | n + 1, h, hc => by
    by_cases hsi : S i = true
    · exact .inr hsi
    left
    have hsi : S i = false := by simpa using hsi
    by_cases he : i = n
    · subst he
      have h1 : S' i = true := by rw [hS]; simp
      have h2 : cur init wr S' i x = cur init wr S i x := cur_congr i (fun k hk => by rw [hS]; rw [if_neg (by omega)])
      simp only [cur, h1, hsi, h2]
    · have ih := (cur_add S' hS n (by omega) (fun k h1 h2 h3 => hc k h1 (by omega) h3)).resolve_right (by simp [hsi])
      have h1 : S' n = S n := by rw [hS]; rw [if_neg (by omega)]
      simp only [cur, h1, ih]
      cases hw : wr i x with
      | none => simp only []
      | some c =>
        simp only []
        split
        · rename_i hs
          rw [hc n (by omega) (by omega) hs (by simp [hw])]
        · rfl
end

/-! ### what the evaluator went through -/
def afterT (tmps : List AV) : List DR → List AV
  | [] => tmps
  | d :: r => afterT (putT tmps d.o.dst d.v) r

def afterH (heap : List (Nat × AO)) : List DR → List (Nat × AO)
  | [] => heap
  | d :: r => afterH (mergeW heap d.h.heap d.w) r

theorem afterT_snoc (d : DR) : ∀ (l : List DR) (tmps : List AV), afterT tmps (l ++ [d]) = putT (afterT tmps l) d.o.dst d.v
  | [], _ => rfl
  | x :: l, tmps => afterT_snoc d l _

theorem afterH_snoc (d : DR) : ∀ (l : List DR) (heap : List (Nat × AO)), afterH heap (l ++ [d]) = mergeW (afterH heap l) d.h.heap d.w
  | [], _ => rfl
  | x :: l, heap => afterH_snoc d l _

theorem putT_length (tmps : List AV) (dst : Option Tmp) (v : AV) : (putT tmps dst v).length = tmps.length := by cases dst <;> simp [putT, setNth_eq]

theorem afterT_length : ∀ (l : List DR) (tmps : List AV), (afterT tmps l).length = tmps.length
  | [], _ => rfl
  | d :: l, tmps => by simp only [afterT]; rw [afterT_length l, putT_length]

theorem get_mergeW (old new : List (Nat × AO)) : ∀ (l : List Nat) (n : Nat), get (mergeW old new l) n = if n ∈ l then get new n else get old n
  | [], n => by simp [mergeW]
  | m :: r, n => by
    have ih := get_mergeW old new r n
    simp only [mergeW]
    split
    · rename_i o ho
      rw [get_set, ih]
      by_cases h : n = m
      · subst h; simp [ho]
      · simp [h]
    · rename_i ho
      rw [get_del, ih]
      by_cases h : n = m
      · subst h; simp [ho]
      · simp [h]

/-- What an operation writes: slots. -/
def wrT (D : List DR) (len : Nat) (k t : Nat) : Option (Option AV) := match D[k]? with
  | some d => match d.o.dst with
    | some t' => if t' = t ∧ t < len then some (some d.v) else none
    | none => none
  | none => none

/-- .. blocks. -/
def wrH (D : List DR) (k n : Nat) : Option (Option AO) := match D[k]? with
  | some d => if n ∈ d.w then some (get d.h.heap n) else none
  | none => none

theorem curT_after (D : List DR) (tmps : List AV) : ∀ (j : Nat), j ≤ D.length → ∀ t, (afterT tmps (D.take j))[t]? = cur (fun t => tmps[t]?) (wrT D tmps.length) (fun _ => true) j t
  | 0, _, t => by simp [afterT, cur]
  | j + 1, hj, t => by
    have ih := curT_after D tmps j (by omega) t
    have hd : D[j]? = some D[j] := List.getElem?_eq_getElem (by omega)
    rw [List.take_succ_eq_append_getElem (by omega), afterT_snoc]
    simp only [cur, wrT, hd]
    cases hdst : D[j].o.dst with
    | none => simpa [putT] using ih
    | some t' =>
      simp only [putT, setNth_eq, List.getElem?_set, afterT_length]
      by_cases h1 : t' = t
      · subst h1
        by_cases h2 : t' < tmps.length
        · simp [h2]
        · simp only [h2, if_false, and_false, if_true]
          rw [← ih, List.getElem?_eq_none (by rw [afterT_length]; exact Nat.le_of_not_lt h2)]
      · simp [h1, ih]

theorem curH_after (D : List DR) (heap : List (Nat × AO)) : ∀ (j : Nat), j ≤ D.length → ∀ n, get (afterH heap (D.take j)) n = cur (get heap) (wrH D) (fun _ => true) j n
  | 0, _, n => by simp [afterH, cur]
  | j + 1, hj, n => by
    have ih := curH_after D heap j (by omega) n
    have hd : D[j]? = some D[j] := List.getElem?_eq_getElem (by omega)
    rw [List.take_succ_eq_append_getElem (by omega), afterH_snoc, get_mergeW]
    simp only [cur, wrH, hd]
    by_cases h : n ∈ D[j].w
    · simp [h]
    · simp [h, ih]

/-- What is known of one operation of the region. -/
structure DFact (E : Env) (m : Nat) (all : List Oper) (s : St) (lo step : Nat) (D : List DR) (j : Nat) (d : DR) (tm : List AV) (hp : Hp) : Prop where
  op : all[j]? = some d.o
  looks : d.looks = looksAt all d.o
  htm : tm = mask d.looks (afterT s.tmps (D.take j)) 0
  heap : hp.heap = restrict (afterH s.hp.heap (D.take j)) d.fp
  nxt : hp.nxt = lo + j * step
  hi : hp.hi = lo + j * step + step
  wr : hp.wr = []
  wanted : wantedA all tm d.o = some d.wanted
  no : d.wanted = false → d.v = .tup [] ∧ d.w = [] ∧ d.fp = []
  yes : d.wanted = true → ∃ m' v0 h0 i, m' < m ∧ oper E m' tm d.o.op hp = some (v0, h0) ∧ settle all i v0 h0 = some (d.v, d.h) ∧ d.h.nxt ≤ lo + j * step + step ∧ d.w = addAll (newNames (lo + j * step) (lo + j * step + step) d.h.heap) d.h.wr

structure DFacts (E : Env) (m : Nat) (all : List Oper) (s : St) (lo step : Nat) (D : List DR) (s' : St) : Prop where
  len : D.length = all.length
  fact : ∀ (j : Nat) d, D[j]? = some d → ∃ tm hp, DFact E m all s lo step D j d tm hp
  tmps : s'.tmps = afterT s.tmps D
  heap : s'.hp.heap = afterH s.hp.heap D
  nxt : s'.hp.nxt = lo + all.length * step
  lim : lo + all.length * step ≤ s.hp.hi
  hi : s'.hp.hi = s.hp.hi
  ob : ∀ p ∈ s.hp.ob, p ∈ s'.hp.ob
  obd : ∀ d ∈ D, d.wanted = true → ∀ p ∈ d.h.ob, p ∈ s'.hp.ob
  wr : ∀ n ∈ s.hp.wr, n ∈ s'.hp.wr
  wrd : ∀ d ∈ D, d.wanted = true → ∀ n ∈ d.h.wr, n ∈ s'.hp.wr

theorem mem_addAll {n : Nat} : ∀ {l r : List Nat}, n ∈ addAll l r ↔ n ∈ l ∨ n ∈ r
  | [], r => by simp [addAll]
  | m :: l, r => by simp only [addAll]; rw [mem_add, mem_addAll]; simp [or_assoc]

theorem DFact.more {E : Env} {m m' : Nat} {all : List Oper} {s : St} {lo step : Nat} {D : List DR} {j : Nat} {d : DR} {tm : List AV} {hp : Hp} (f : DFact E m all s lo step D j d tm hp) (h : m ≤ m') : DFact E m' all s lo step D j d tm hp :=
  { f with yes := fun hw => let ⟨k, v0, h0, i, a, b⟩ := f.yes hw; ⟨k, v0, h0, i, Nat.lt_of_lt_of_le a h, b⟩ }

/-- The evaluator's run, from some operation on: what came ahead is 'pre'. -/
structure DRun (E : Env) (n : Nat) (all : List Oper) (s0 : St) (lo0 step : Nat) (pre : List DR) (rest : List Oper) (s : St) (D : List DR) (s' : St) : Prop where
  len : D.length = rest.length
  fact : ∀ (j : Nat) d, D[j]? = some d → ∃ tm hp, DFact E n all s0 lo0 step (pre ++ D) (pre.length + j) d tm hp
  tmps : s'.tmps = afterT s.tmps D
  heap : s'.hp.heap = afterH s.hp.heap D
  nxt : s'.hp.nxt = lo0 + (pre.length + rest.length) * step
  lim : lo0 + (pre.length + rest.length) * step ≤ s.hp.hi
  hi : s'.hp.hi = s.hp.hi
  ob : ∀ p ∈ s.hp.ob, p ∈ s'.hp.ob
  obd : ∀ d ∈ D, d.wanted = true → ∀ p ∈ d.h.ob, p ∈ s'.hp.ob
  wr : ∀ n ∈ s.hp.wr, n ∈ s'.hp.wr
  wrd : ∀ d ∈ D, d.wanted = true → ∀ n ∈ d.h.wr, n ∈ s'.hp.wr

theorem draw_run (E : Env) (all : List Oper) (hs : List (Nat × List Hint)) (step lo0 : Nat) (s0 : St) : ∀ (n : Nat) (rest : List Oper) (i : Nat) (s : St) (D : List DR) (s' : St) (pre : List DR) (opre : List Oper),
    drawOps E n all i rest (lo0 + pre.length * step) step hs s = some (D, s') → all = opre ++ rest → opre.length = pre.length → s.tmps = afterT s0.tmps pre → s.hp.heap = afterH s0.hp.heap pre →
    DRun E n all s0 lo0 step pre rest s D s'
  | 0, rest, i, s, D, s', pre, opre, e, _, _, _, _ => by simp [drawOps] at e
  | n + 1, rest, i, s, D, s', pre, opre, e, hall, hol, ht, hh => by
    unfold drawOps at e
    split at e
    · split at e
      · rename_i hle
        cases e
        have hle := Nat.le_of_ble_eq_true hle
        exact ⟨rfl, by simp, rfl, rfl, by simp, by simpa using hle, rfl, fun _ h => h, by simp, fun _ h => h, by simp⟩
      · cases e
    · rename_i o rest
      have hlo : lo0 + pre.length * step + step = lo0 + (pre.length + 1) * step := by rw [Nat.add_mul]; omega
      have hop : all[pre.length]? = some o := by rw [hall, ← hol]; simp
      have hcount : pre.length + 1 + rest.length = pre.length + (o :: rest).length := by simp; omega
      -- the facts behind the first operation
      have tail : ∀ (d : DR) (ds : List DR) (s1 s2 : St), (∃ tm hp, DFact E (n + 1) all s0 lo0 step (pre ++ d :: ds) pre.length d tm hp) → DRun E n all s0 lo0 step (pre ++ [d]) rest s1 ds s2 → s1.tmps = putT s.tmps d.o.dst d.v → s1.hp.heap = mergeW s.hp.heap d.h.heap d.w → s1.hp.hi = s.hp.hi →
          (∀ p ∈ s.hp.ob, p ∈ s1.hp.ob) → (d.wanted = true → ∀ p ∈ d.h.ob, p ∈ s1.hp.ob) → (∀ p ∈ s.hp.wr, p ∈ s1.hp.wr) → (d.wanted = true → ∀ p ∈ d.h.wr, p ∈ s1.hp.wr) → DRun E (n + 1) all s0 lo0 step pre (o :: rest) s (d :: ds) s2 := by
        intro d ds s1 s2 hf r h1 h2 h3 h4 h5 h6 h7
        have rn := r.nxt
        have rl := r.lim
        simp only [List.length_append, List.length_cons, List.length_nil, Nat.zero_add] at rn rl
        rw [hcount] at rn rl
        refine ⟨by simp [r.len], ?_, by rw [r.tmps, afterT, h1], by rw [r.heap, afterH, h2], rn, by rw [← h3]; exact rl, r.hi.trans h3, fun p hp => r.ob p (h4 p hp), ?_, fun p hp => r.wr p (h6 p hp), ?_⟩
        · intro j d' hj
          cases j with
          | zero => simp at hj; subst hj; exact hf
          | succ j =>
            simp at hj
            obtain ⟨tm, hp, f⟩ := r.fact j d' hj
            have e1 : pre ++ [d] ++ ds = pre ++ d :: ds := by simp
            have e2 : (pre ++ [d]).length + j = pre.length + (j + 1) := by simp; omega
            rw [e1, e2] at f
            exact ⟨tm, hp, f.more (by omega)⟩
        · intro d' hd' hw' p hp
          rcases List.mem_cons.1 hd' with rfl | hd'
          · exact r.ob p (h5 hw' p hp)
          · exact r.obd d' hd' hw' p hp
        · intro d' hd' hw' p hp
          rcases List.mem_cons.1 hd' with rfl | hd'
          · exact r.wr p (h7 hw' p hp)
          · exact r.wrd d' hd' hw' p hp
      split at e
      · rename_i hw
        rw [← wantedA_mask all o s.tmps] at hw
        split at e
        · rename_i v0 h0 ho
          rw [← oper_mask all o s.tmps] at ho
          split at e
          · rename_i v h1 hst
            split at e
            · rename_i hle
              split at e
              · rename_i ds s1 hrec
                cases e
                have hle := Nat.le_of_ble_eq_true hle
                have ih := draw_run E all hs step lo0 s0 n rest (i + 1) _ ds s' (pre ++ [⟨o, true, drawFp E.P s.hp.heap s.tmps all o, v, h1, addAll (newNames (lo0 + pre.length * step) (lo0 + pre.length * step + step) h1.heap) h1.wr, looksAt all o⟩]) (opre ++ [o])
                  (by rw [List.length_append, List.length_singleton, ← hlo]; exact hrec) (by rw [hall]; simp) (by simp [hol]) (by rw [afterT_snoc, ← ht]) (by rw [afterH_snoc, ← hh])
                refine tail _ ds _ s' ⟨_, ⟨restrict s.hp.heap (drawFp E.P s.hp.heap s.tmps all o), lo0 + pre.length * step, lo0 + pre.length * step + step, childHints hs i, [], [], s.hp.auto⟩, ⟨hop, rfl, rfl, ?_, rfl, rfl, rfl, ?_, by simp, fun _ => ⟨n, v0, h0, i, by omega, ?_, hst, hle, rfl⟩⟩⟩ ih rfl rfl rfl (fun p hp => List.mem_append_right _ hp) (fun _ p hp => List.mem_append_left _ hp) (fun p hp => mem_addAll.2 (.inr hp)) (fun _ p hp => mem_addAll.2 (.inl hp))
                · simp [← hh]
                · simp only [List.take_left']
                  simp [← ht]; exact hw
                · simp [← ht]; exact ho
              · cases e
            · cases e
          · cases e
        · cases e
      · rename_i hw
        rw [← wantedA_mask all o s.tmps] at hw
        split at e
        · rename_i ds s1 hrec
          cases e
          rw [hlo] at hrec
          have ih := draw_run E all hs step lo0 s0 n rest (i + 1) _ ds s' (pre ++ [⟨o, false, [], .tup [], s.hp, [], looksAt all o⟩]) (opre ++ [o])
            (by rw [List.length_append]; exact hrec) (by rw [hall]; simp) (by simp [hol]) (by rw [afterT_snoc, ← ht]) (by rw [afterH_snoc, ← hh]; rfl)
          refine tail _ ds _ s' ⟨_, ⟨[], lo0 + pre.length * step, lo0 + pre.length * step + step, [], [], [], true⟩, ⟨hop, rfl, rfl, rfl, rfl, rfl, rfl, ?_, fun _ => ⟨rfl, rfl, rfl⟩, by simp⟩⟩ ih rfl rfl rfl (fun p hp => hp) (by simp) (fun p hp => hp) (by simp)
          simp [← ht]; exact hw
        · cases e
      · cases e

/-! ### what stands ahead -/
theorem ancOf_edge {ancs : List Nat} {i : Nat} : ∀ {es : List Edge} {x : Nat}, ancOf ancs i es = some x → ∀ e ∈ es, Region.binds .any e = true → e.on < ancs.length
  | [], x, _, e, he, _ => by simp at he
  | e0 :: r, x, h, e, he, hb => by
    simp only [ancOf] at h
    split at h
    · cases h
    rename_i s hs
    rcases List.mem_cons.1 he with rfl | he
    · split at h
      · rename_i hf; rw [hb] at hf; cases hf
      · split at h
        · rename_i y hy; rw [nth_eq] at hy; exact (List.getElem?_eq_some_iff.1 hy).1
        · cases h
    · exact ancOf_edge hs e he hb

theorem ancOf_bit {ancs : List Nat} {i : Nat} : ∀ {es : List Edge} {x : Nat}, ancOf ancs i es = some x → ∀ k, Nat.testBit x k = true → ∃ e ∈ es, Region.binds .any e = true ∧ (k = e.on ∨ ∃ y, ancs[e.on]? = some y ∧ Nat.testBit y k = true)
  | [], x, h, k, hk => by simp only [ancOf] at h; cases h; simp at hk
  | e0 :: r, x, h, k, hk => by
    simp only [ancOf] at h
    split at h
    · cases h
    rename_i s hs
    split at h
    · cases h
      obtain ⟨e, he, r⟩ := ancOf_bit hs k hk
      exact ⟨e, List.mem_cons_of_mem _ he, r⟩
    · rename_i hb
      split at h
      · rename_i y hy
        rw [nth_eq] at hy
        cases h
        have h1 : (s ||| (2 ^ e0.on ||| y)).testBit k = true := hk
        rw [Nat.testBit_or, Nat.testBit_or] at h1
        simp only [Bool.or_eq_true] at h1
        rcases h1 with h1 | h1 | h1
        · obtain ⟨e, he, r⟩ := ancOf_bit hs k h1
          exact ⟨e, List.mem_cons_of_mem _ he, r⟩
        · rw [Nat.testBit_two_pow] at h1
          exact ⟨e0, List.mem_cons_self .., hb, .inl (by have := of_decide_eq_true h1; exact this.symm)⟩
        · exact ⟨e0, List.mem_cons_self .., hb, .inr ⟨y, hy, h1⟩⟩
      · cases h

theorem ancAll_spec : ∀ (ops : List Oper) (acc ancs : List Nat), ancAll acc ops = some ancs → ancs.length = acc.length + ops.length ∧ ancs.take acc.length = acc ∧
    ∀ (j : Nat) o, ops[j]? = some o → ∃ x, ancs[acc.length + j]? = some x ∧ ancOf (ancs.take (acc.length + j)) (acc.length + j) o.after.toList = some x
  | [], acc, ancs, h => by simp only [ancAll] at h; cases h; simp
  | o :: r, acc, ancs, h => by
    simp only [ancAll] at h
    split at h
    · rename_i x hx
      obtain ⟨h1, h2, h3⟩ := ancAll_spec r (acc ++ [x]) ancs h
      simp only [List.length_append, List.length_cons, List.length_nil, Nat.zero_add] at h1 h2 h3
      have h4 : ancs.take acc.length = acc := by
        have := congrArg (List.take acc.length) h2
        rw [List.take_take, Nat.min_eq_left (by omega)] at this
        rw [this]; simp
      refine ⟨by simp; omega, h4, fun j o' hj => ?_⟩
      cases j with
      | zero =>
        simp at hj; subst hj
        refine ⟨x, ?_, by rw [Nat.add_zero, h4]; exact hx⟩
        have : (ancs.take (acc.length + 1))[acc.length]? = some x := by rw [h2]; simp
        rw [List.getElem?_take, if_pos (by omega)] at this
        exact this
      | succ j =>
        simp at hj
        obtain ⟨y, a, b⟩ := h3 j o' hj
        rw [show acc.length + 1 + j = acc.length + (j + 1) by omega] at a b
        exact ⟨y, a, b⟩
    · cases h

/-- Closed under what stands ahead. -/
theorem anc_closed {all : List Oper} {ancs : List Nat} (h : ancAll [] all = some ancs) {S : Nat → Bool} (hS : ∀ (i : Nat) o, all[i]? = some o → S i = true → ∀ e ∈ o.after.toList, Region.binds .any e = true → S e.on = true) :
    ∀ (n i : Nat) o x, i < n → all[i]? = some o → ancs[i]? = some x → (∀ e ∈ o.after.toList, Region.binds .any e = true → S e.on = true) → ∀ k, Nat.testBit x k = true → S k = true ∧ k < i
  | 0, i, _, _, hi, _, _, _, _, _ => by omega
  | n + 1, i, o, x, hi, ho, hx, he, k, hk => by
    obtain ⟨h1, h2, h3⟩ := ancAll_spec all [] ancs h
    simp only [List.length_nil, Nat.zero_add] at h1 h3
    obtain ⟨x', hx', ha⟩ := h3 i o ho
    rw [hx] at hx'; cases hx'
    obtain ⟨e, hee, hb, hcase⟩ := ancOf_bit ha k hk
    have hlt := ancOf_edge ha e hee hb
    simp only [List.length_take] at hlt
    rcases hcase with rfl | ⟨y, hy, hky⟩
    · exact ⟨he e hee hb, by omega⟩
    · rw [List.getElem?_take] at hy
      split at hy
      · rename_i hei
        have hlen : e.on < all.length := by have := (List.getElem?_eq_some_iff.1 ho).1; omega
        have := anc_closed h hS n e.on all[e.on] y (by omega) (List.getElem?_eq_getElem hlen) hy (fun e' he' hb' => hS e.on _ (List.getElem?_eq_getElem hlen) (he e hee hb) e' he' hb') k hky
        exact ⟨this.1, by omega⟩
      · cases hy

theorem orderly_spec {anc : Nat} {r : Rec} : ∀ {l : List DR} {k0 : Nat}, orderly anc r l k0 = true → ∀ (k : Nat) d, l[k]? = some d → clash d.rc r = true → Nat.testBit anc (k0 + k) = true
  | [], k0, _, k, d, hd, _ => by simp at hd
  | x :: l, k0, h, k, d, hd, hc => by
    simp only [orderly] at h
    cases k with
    | zero =>
      simp at hd; subst hd
      split at h
      · rename_i hf; rw [hc] at hf; cases hf
      · split at h
        · rename_i ht; simpa using ht
        · cases h
    | succ k =>
      simp at hd
      have hrest : orderly anc r l (k0 + 1) = true := by
        split at h
        · exact h
        · split at h
          · exact h
          · cases h
      have := orderly_spec hrest k d hd hc
      rw [show k0 + (k + 1) = k0 + 1 + k by omega]; exact this

theorem orderlyAll_spec {all : List DR} : ∀ {ancs : List Nat} {ds : List DR} {i : Nat}, orderlyAll all ancs ds i = true → ancs.length = ds.length ∧ ∀ (j : Nat) a d, ancs[j]? = some a → ds[j]? = some d → ∀ (k : Nat) d', k < i + j → all[k]? = some d' → clash d'.rc d.rc = true → Nat.testBit a k = true
  | [], [], i, _ => by simp
  | [], _ :: _, i, h => by simp [orderlyAll] at h
  | _ :: _, [], i, h => by simp [orderlyAll] at h
  | a :: ancs, d :: ds, i, h => by
    simp only [orderlyAll] at h
    split at h
    · rename_i pre hp
      obtain ⟨hlen, rfl⟩ := takeN_eq _ _ _ hp
      split at h
      · rename_i ho
        obtain ⟨h1, h2⟩ := orderlyAll_spec h
        refine ⟨by simp [h1], fun j a' d' ha hd k d'' hk hk' hc => ?_⟩
        cases j with
        | zero =>
          simp at ha hd; subst ha; subst hd
          have := orderly_spec ho k d'' (by rw [List.getElem?_take, if_pos (by omega)]; exact hk') hc
          simpa using this
        | succ j =>
          simp at ha hd
          exact h2 j a' d' ha hd k d'' (by omega) hk' hc
      · cases h
    · cases h

theorem anyMem_false {a b : List Nat} : anyMem a b = false → ∀ n ∈ a, n ∉ b := by
  induction a with
  | nil => intro _ n hn; simp at hn
  | cons m r ih =>
    intro h n hn
    simp only [anyMem] at h
    split at h
    · cases h
    · rename_i hm
      rcases List.mem_cons.1 hn with rfl | hn
      · intro hb; rw [(mem_iff n b).2 hb] at hm; cases hm
      · exact ih h n hn

/-- Two operations that may change places. -/
theorem clash_false {a b : Rec} (h : clash a b = false) : (∀ t, a.dst = some t → t ∉ b.looks ∧ b.dst ≠ some t) ∧ (∀ t, b.dst = some t → t ∉ a.looks) ∧ (∀ n ∈ a.wr, n ∉ b.fp ∧ n ∉ b.wr) ∧ ∀ n ∈ b.wr, n ∉ a.fp := by
  unfold clash at h
  split at h
  · rename_i h1 h2 h3 h4 h5 h6
    refine ⟨fun t ht => ⟨fun hm => ?_, fun hb => ?_⟩, fun t ht hm => ?_, fun n hn => ⟨anyMem_false h4 n hn, anyMem_false h5 n hn⟩, anyMem_false h6⟩
    · rw [ht] at h1; simp only [optMem] at h1; rw [(mem_iff t _).2 hm] at h1; cases h1
    · rw [ht, hb] at h2; simp [optBeq] at h2
    · rw [ht] at h3; simp only [optMem] at h3; rw [(mem_iff t _).2 hm] at h3; cases h3
  · cases h

/-! ### the region -/
def HeapF (P : Program) (ρ : Ren) (H : Nat → Option AO) (w : World) : Prop :=
  (∀ n o, H n = some o → ∃ l, ρ n = some l ∧ ObjRep P ρ w l o) ∧
  ∀ n m o o' l l', H n = some o → H m = some o' → n ≠ m → (o.ro && o'.ro) = false → ρ n = some l → ρ m = some l' → l.cap ≠ 0 → l'.cap ≠ 0 → l.blk ≠ l'.blk

theorem get_restrict (heap : List (Nat × AO)) : ∀ (l : List Nat) (n : Nat) (o : AO), get (restrict heap l) n = some o → n ∈ l ∧ get heap n = some o
  | [], n, o, h => by simp [restrict, get] at h
  | m :: r, n, o, h => by
    simp only [restrict] at h
    split at h
    · rename_i o' ho'
      simp only [get] at h
      split at h
      · rename_i hb
        have := Nat.eq_of_beq_eq_true hb
        subst this
        cases h
        exact ⟨List.mem_cons_self .., ho'⟩
      · obtain ⟨a, b⟩ := get_restrict heap r n o h
        exact ⟨List.mem_cons_of_mem _ a, b⟩
    · obtain ⟨a, b⟩ := get_restrict heap r n o h
      exact ⟨List.mem_cons_of_mem _ a, b⟩

structure DInv (P : Program) (D : List DR) (s s' : St) (lo step N : Nat) (ρ0 : Ren) (w0 : World) (S : Nat → Bool) (ρ : Ren) (a : Act) (w : World) : Prop where
  size : a.tmps.size = s.tmps.length
  rel : ∀ t v, cur (fun t => s.tmps[t]?) (wrT D s.tmps.length) S N t = some v → ∃ x, a.tmps[t]? = some x ∧ relS ρ v x
  defers : a.defers = []
  rep : HeapF P ρ (cur (get s.hp.heap) (wrH D) S N) w
  le : Le ρ0 ρ
  new : ∀ n l, ρ0 n = none → ρ n = some l → lo ≤ n ∧ n < lo + N * step
  fresh : ∀ k, k < N → S k = false → Fresh ρ (lo + k * step) (lo + k * step + step)
  fr : Fr w0 w (Owned ρ0 s.hp.heap s'.hp.wr)
  own : ∀ n o l, cur (get s.hp.heap) (wrH D) S N n = some o → ρ n = some l → l.cap ≠ 0 → l.blk < w0.heap.size → ∃ m o' l', get s.hp.heap m = some o' ∧ o'.ro = o.ro ∧ ρ0 m = some l' ∧ l'.cap ≠ 0 ∧ l'.blk = l.blk ∧ (m = n ∨ m ∈ s'.hp.wr)

/-- One operation comes up. -/
theorem draw_step {E : Env} {m : Nat} {all : List Oper} {s s' : St} {lo step : Nat} {D : List DR} (F : DFacts E m all s lo step D s') (hoper : ∀ m' tm op hp v h', m' < m → oper E m' tm op hp = some (v, h') → OpOk E.P tm op hp v h')
    (hob : Obs s'.hp) {ancs : List Nat} (hord : orderlyAll D ancs D 0 = true) {ρ0 : Ren} (G0 : GOk ρ0) {w0 : World} {S S' : Nat → Bool} {ρ : Ren} {a : Act} {w : World} (I : DInv E.P D s s' lo step all.length ρ0 w0 S ρ a w)
    {i : Nat} {o : Oper} (ho : all[i]? = some o) (hSi : S i = false) (hS' : ∀ k, S' k = if k = i then true else S k)
    (hup : ∀ x, ancs[i]? = some x → ∀ k, Nat.testBit x k = true → S k = true) (hdown : ∀ (k : Nat) x, S k = true → ancs[k]? = some x → Nat.testBit x i = true → S i = true)
    {Q : Exit → Act → World → Prop} {K : Act → World → Prop} (hK : ∀ ρ' a' w', DInv E.P D s s' lo step all.length ρ0 w0 S' ρ' a' w' → K a' w') : wpOp E.P all.toArray Q i K a w := by
  have hiN : i < all.length := (List.getElem?_eq_some_iff.1 ho).1
  obtain ⟨d, hDi⟩ : ∃ d, D[i]? = some d := ⟨D[i]'(by rw [F.len]; exact hiN), List.getElem?_eq_getElem _⟩
  obtain ⟨tm, hp, f⟩ := F.fact i d hDi
  have hdo : d.o = o := by have := f.op; rw [ho] at this; exact (Option.some.inj this).symm
  obtain ⟨hal, hor⟩ := orderlyAll_spec hord
  have hDlen := F.len
  have hanc : ∀ (k : Nat), k < all.length → ∃ x, ancs[k]? = some x := fun k hk => ⟨ancs[k]'(by omega), List.getElem?_eq_getElem (by omega)⟩
  have c1 : ∀ (k : Nat) d', k < i → S k = false → D[k]? = some d' → clash d'.rc d.rc = false := by
    intro k d' hk hs hd'
    cases hc : clash d'.rc d.rc with
    | false => rfl
    | true =>
      obtain ⟨x, hx⟩ := hanc i hiN
      have := hor i x d hx hDi k d' (by omega) hd' hc
      rw [hup x hx k this] at hs; cases hs
  have c2 : ∀ (k : Nat) d', i < k → S k = true → D[k]? = some d' → clash d.rc d'.rc = false := by
    intro k d' hk hs hd'
    cases hc : clash d.rc d'.rc with
    | false => rfl
    | true =>
      have hkN : k < all.length := by have := (List.getElem?_eq_some_iff.1 hd').1; omega
      obtain ⟨x, hx⟩ := hanc k hkN
      have := hor k x d' hx hd' i d (by omega) hDi hc
      rw [hdown k x hs hx this] at hSi; cases hSi
  have hrc : d.rc = ⟨d.fp, d.w, d.o.dst, d.looks⟩ := rfl
  -- what it reads is what it read in the text's order
  have readT : ∀ t, t ∈ d.looks → cur (fun t => s.tmps[t]?) (wrT D s.tmps.length) S all.length t = (afterT s.tmps (D.take i))[t]? := by
    intro t ht
    rw [curT_after D s.tmps i (by omega) t, cur_above all.length i (by omega), cur_below i]
    · intro k hk hs
      unfold wrT
      cases hd' : D[k]? with
      | none => rfl
      | some d' =>
        have := (clash_false (c1 k d' hk hs hd')).1
        simp only
        cases hdst : d'.o.dst with
        | none => rfl
        | some t' =>
          simp only
          rw [if_neg]
          rintro ⟨rfl, _⟩
          exact (this t' hdst).1 ht
    · intro k hik hk hs
      have hne : k ≠ i := fun e => by subst e; rw [hs] at hSi; cases hSi
      unfold wrT
      cases hd' : D[k]? with
      | none => rfl
      | some d' =>
        have := (clash_false (c2 k d' (by omega) hs hd')).2.1
        simp only
        cases hdst : d'.o.dst with
        | none => rfl
        | some t' =>
          simp only
          rw [if_neg]
          rintro ⟨rfl, _⟩
          exact this t' hdst ht
  have readH : ∀ n, n ∈ d.fp → cur (get s.hp.heap) (wrH D) S all.length n = get (afterH s.hp.heap (D.take i)) n := by
    intro n hn
    rw [curH_after D s.hp.heap i (by omega) n, cur_above all.length i (by omega), cur_below i]
    · intro k hk hs
      unfold wrH
      cases hd' : D[k]? with
      | none => rfl
      | some d' =>
        have := (clash_false (c1 k d' hk hs hd')).2.2.1
        simp only
        rw [if_neg]
        intro hw
        exact (this n hw).1 hn
    · intro k hik hk hs
      have hne : k ≠ i := fun e => by subst e; rw [hs] at hSi; cases hSi
      unfold wrH
      cases hd' : D[k]? with
      | none => rfl
      | some d' =>
        have := (clash_false (c2 k d' (by omega) hs hd')).2.2.2
        simp only
        rw [if_neg]
        intro hw
        exact this n hw hn
  -- and what it writes stays
  have addT : ∀ t, cur (fun t => s.tmps[t]?) (wrT D s.tmps.length) S' all.length t = (match wrT D s.tmps.length i t with
      | some c => c
      | none => cur (fun t => s.tmps[t]?) (wrT D s.tmps.length) S all.length t) := by
    intro t
    have hcur := (cur_add (init := fun t => s.tmps[t]?) (wr := wrT D s.tmps.length) (x := t) S' hS' all.length hiN ?_).resolve_right (by simp [hSi])
    · rw [hcur]
      cases wrT D s.tmps.length i t <;> rfl
    intro k hik hk hs hw
    unfold wrT at hw ⊢
    rw [hDi] at hw
    cases hd' : D[k]? with
    | none => rfl
    | some d' =>
      have := (clash_false (c2 k d' hik hs hd')).1
      simp only at hw ⊢
      cases hdst : d.o.dst with
      | none => rw [hdst] at hw; simp at hw
      | some t' =>
        rw [hdst] at hw
        simp only at hw
        have htt : t' = t := by
          by_cases hc : t' = t ∧ t < s.tmps.length
          · exact hc.1
          · rw [if_neg hc] at hw; exact absurd rfl hw
        subst htt
        cases hdst' : d'.o.dst with
        | none => rfl
        | some t'' =>
          simp only
          rw [if_neg]
          rintro ⟨rfl, _⟩
          exact (this _ hdst).2 hdst'
  have addH : ∀ n, cur (get s.hp.heap) (wrH D) S' all.length n = (if n ∈ d.w then get d.h.heap n else cur (get s.hp.heap) (wrH D) S all.length n) := by
    intro n
    have := (cur_add (init := get s.hp.heap) (wr := wrH D) (x := n) S' hS' all.length hiN ?_).resolve_right (by simp [hSi])
    · rw [this]
      unfold wrH
      rw [hDi]
      simp only
      by_cases hn : n ∈ d.w
      · simp [hn]
      · simp [hn]
    · intro k hik hk hs hw
      unfold wrH at hw ⊢
      rw [hDi] at hw
      cases hd' : D[k]? with
      | none => rfl
      | some d' =>
        have := (clash_false (c2 k d' hik hs hd')).2.2.1
        simp only at hw ⊢
        rw [if_neg]
        intro hk'
        by_cases hn : n ∈ d.w
        · exact (this n hn).2 hk'
        · rw [if_neg hn] at hw; exact hw rfl
  have htm : RelL ρ tm a.tmps.toList := by
    rw [f.htm]
    refine ⟨by rw [mask_length, afterT_length]; simp [I.size], fun k v hk => ?_⟩
    rw [mask_get, Nat.zero_add] at hk
    cases hv : (afterT s.tmps (D.take i))[k]? with
    | none => simp [hv] at hk
    | some u =>
      simp [hv] at hk
      have hlt : k < a.tmps.size := by
        have := (List.getElem?_eq_some_iff.1 hv).1
        rw [afterT_length] at this
        rw [I.size]; exact this
      by_cases hm : mem k d.looks = true
      · rw [if_pos hm] at hk; subst hk
        obtain ⟨x, hx, hr⟩ := I.rel k _ (by rw [readT k ((mem_iff k _).1 hm)]; exact hv)
        exact ⟨x, by simpa using hx, hr⟩
      · rw [if_neg hm] at hk; subst hk
        exact ⟨a.tmps[k], by simp [hlt], .inl rfl⟩
  have hopi : all.toArray[i]? = some o := by simpa using ho
  unfold wpOp
  rw [hopi]
  simp only
  have hwant := wanted_ok f.wanted htm
  rw [hdo] at hwant
  rw [hwant]
  have putrel : ∀ {ρ' : Ren} {x : Value}, Le ρ ρ' → relS ρ' d.v x → (a.put o.dst x).tmps.size = s.tmps.length ∧ ∀ t v, cur (fun t => s.tmps[t]?) (wrT D s.tmps.length) S' all.length t = some v → ∃ y, (a.put o.dst x).tmps[t]? = some y ∧ relS ρ' v y := by
    intro ρ' x hle hx
    refine ⟨by cases o.dst <;> simp [Act.put, I.size], fun t v hv => ?_⟩
    rw [addT t] at hv
    unfold wrT at hv
    rw [hDi] at hv
    simp only [hdo] at hv
    cases hdst : o.dst with
    | none =>
      rw [hdst] at hv
      obtain ⟨y, hy, hr⟩ := I.rel t v hv
      exact ⟨y, hy, hr.mono hle⟩
    | some t' =>
      rw [hdst] at hv
      simp only at hv
      by_cases hc : t' = t ∧ t < s.tmps.length
      · rw [if_pos hc] at hv
        obtain ⟨rfl, hlt⟩ := hc
        simp only at hv; cases hv
        exact ⟨x, by simp [Act.put, I.size, hlt], hx⟩
      · rw [if_neg hc] at hv
        obtain ⟨y, hy, hr⟩ := I.rel t v hv
        have hne : t' ≠ t := by
          intro e; subst e
          have := (Array.getElem?_eq_some_iff.1 hy).1
          rw [I.size] at this
          exact hc ⟨rfl, this⟩
        exact ⟨y, by simp [Act.put, Array.getElem?_setIfInBounds_ne hne, hy], hr.mono hle⟩
  have freshS : ∀ k, k < all.length → S' k = false → S k = false ∧ k ≠ i := by
    intro k hk hs
    rw [hS'] at hs
    by_cases hki : k = i
    · subst hki; simp at hs
    · rw [if_neg hki] at hs; exact ⟨hs, hki⟩
  cases hwt : d.wanted with
  | false =>
    rw [if_neg (by simp)]
    obtain ⟨hv, hw0, _⟩ := f.no hwt
    obtain ⟨p1, p2⟩ := putrel (ρ' := ρ) (x := undef) (Le.refl ρ) (by rw [hv]; exact undef_rel ρ)
    have hsame : ∀ n, cur (get s.hp.heap) (wrH D) S' all.length n = cur (get s.hp.heap) (wrH D) S all.length n := fun n => by rw [addH n, hw0]; simp
    exact hK ρ _ w ⟨p1, p2, by rw [put_defers]; exact I.defers, ⟨fun n o h => I.rep.1 n o (by rw [← hsame]; exact h), fun n m o o' l l' h h' => I.rep.2 n m o o' l l' (by rw [← hsame]; exact h) (by rw [← hsame]; exact h')⟩, I.le, I.new, fun k hk hs => I.fresh k hk (freshS k hk hs).1, I.fr, fun n o l h => I.own n o l (by rw [← hsame]; exact h)⟩
  | true =>
    rw [if_pos rfl]
    left
    obtain ⟨m', v0, h0, idx, hm', hopr, hset, hnx, hw⟩ := f.yes hwt
    have hOp := hoper m' tm d.o.op hp v0 h0 hm' hopr
    obtain ⟨qs, hsv⟩ := settle_ok hset
    have hobd : Obs d.h := fun p hp => hob p (F.obd d (List.mem_of_getElem? hDi) hwt p hp)
    have hob0 : Obs h0 := hobd.of qs.mono
    have hrep0 : HeapRep E.P ρ hp.heap w := by
      have key : ∀ n o, get hp.heap n = some o → n ∈ d.fp ∧ cur (get s.hp.heap) (wrH D) S all.length n = some o := by
        intro n o hn
        rw [f.heap] at hn
        obtain ⟨h1, h2⟩ := get_restrict _ _ n o hn
        exact ⟨h1, by rw [readH n h1]; exact h2⟩
      exact ⟨fun n o hn => I.rep.1 n o (key n o hn).2, fun n m o o' l l' hn hm => I.rep.2 n m o o' l l' (key n o hn).2 (key m o' hm).2⟩
    have hkey0 : ∀ n o, get hp.heap n = some o → cur (get s.hp.heap) (wrH D) S all.length n = some o := by
      intro n o hn
      rw [f.heap] at hn
      obtain ⟨h1, h2⟩ := get_restrict _ _ n o hn
      rw [readH n h1]; exact h2
    have hpre : Pre E.P ρ tm hp a w := ⟨htm, I.defers, hrep0, (by rw [f.nxt, f.hi]; exact I.fresh i hiN hSi), G0.mono I.le⟩
    refine hOp.wp hob0 ρ a w hpre o Q K (by rw [hdo]) (fun ρ' x w' hx hst => ?_)
    have hwrw : ∀ n ∈ h0.wr, n ∈ d.w := fun n hn => by rw [hw]; exact mem_addAll.2 (.inr (by rw [qs.wr]; exact hn))
    obtain ⟨p1, p2⟩ := putrel hst.le (hsv hobd ρ' x hx)
    have hdheap : d.h.heap = h0.heap := qs.heap
    -- blocks of what is not written stay
    have hstay : ∀ n o l, n ∉ d.w → cur (get s.hp.heap) (wrH D) S all.length n = some o → ρ n = some l → l.cap ≠ 0 → w'.heap[l.blk]? = w.heap[l.blk]? := by
      intro n o l hn hc hl hcap
      obtain ⟨l', hl', hob'⟩ := I.rep.1 n o hc
      rw [hl] at hl'; cases hl'
      refine hst.fr.same l.blk (hob'.lt hcap) ?_
      rintro ⟨m1, hm1, o1, l1, g1, gro, g2, g3, g4⟩
      have hne : m1 ≠ n := fun e => hn (by rw [← e]; exact hwrw m1 hm1)
      exact I.rep.2 m1 n o1 o l1 l (hkey0 m1 o1 g1) hc hne (by rw [gro]; rfl) g2 hl g3 hcap g4
    have hrange : ∀ n l, ρ n = none → ρ' n = some l → lo + i * step ≤ n ∧ n < lo + i * step + step := by
      intro n l h1 h2
      have := hst.new n l h1 h2
      rw [f.nxt] at this
      have := qs.nxt
      omega
    refine hK ρ' _ w' ⟨p1, p2, by rw [put_defers]; exact I.defers, ⟨fun n o1 hn => ?_, fun n k o1 o2 l1 l2 hn hk hne hro h1 h2 q1 q2 => ?_⟩, I.le.trans hst.le, fun n l h1 h2 => ?_, fun k hk hs => ?_, ?_, fun n o1 l h1 h2 h3 h4 => ?_⟩
    · rw [addH n] at hn
      by_cases hnw : n ∈ d.w
      · rw [if_pos hnw, hdheap] at hn
        exact hst.rep.1 n o1 hn
      · rw [if_neg hnw] at hn
        obtain ⟨l, hl, hobj⟩ := I.rep.1 n o1 hn
        exact ⟨l, hst.le n l hl, hobj.keep hst.le (fun hc => hstay n o1 l hnw hn hl hc)⟩
    ·
      have mixed : ∀ (n k : Nat) (o1 o2 : AO) (l1 l2 : Loc), n ∈ d.w → k ∉ d.w → get h0.heap n = some o1 → cur (get s.hp.heap) (wrH D) S all.length k = some o2 → (o1.ro && o2.ro) = false → ρ' n = some l1 → ρ' k = some l2 → l1.cap ≠ 0 → l2.cap ≠ 0 → l1.blk ≠ l2.blk := by
        intro n k o1 o2 l1 l2 hnw hkw hn hk hro h1 h2 q1 q2 heq
        obtain ⟨l2', hl2, hobj⟩ := I.rep.1 k o2 hk
        have := hst.le k l2' hl2
        rw [h2] at this; cases this
        have hlt := hobj.lt q2
        obtain ⟨m1, o', l', g1, gro, g2, g3, g4, g5⟩ := hst.own n o1 l1 hn h1 q1 (by rw [heq]; exact hlt)
        have hmw : m1 ∈ d.w := by
          rcases g5 with rfl | g5
          · exact hnw
          · exact hwrw m1 g5
        have hne' : m1 ≠ k := fun e => hkw (by rw [← e]; exact hmw)
        exact I.rep.2 m1 k o' o2 l' l2 (hkey0 m1 o' g1) hk hne' (by rw [gro]; exact hro) g2 hl2 g3 q2 (g4.trans heq)
      rw [addH n] at hn
      rw [addH k] at hk
      by_cases hnw : n ∈ d.w
      · rw [if_pos hnw, hdheap] at hn
        by_cases hkw : k ∈ d.w
        · rw [if_pos hkw, hdheap] at hk
          exact hst.rep.2 n k o1 o2 l1 l2 hn hk hne hro h1 h2 q1 q2
        · rw [if_neg hkw] at hk
          exact mixed n k o1 o2 l1 l2 hnw hkw hn hk hro h1 h2 q1 q2
      · rw [if_neg hnw] at hn
        by_cases hkw : k ∈ d.w
        · rw [if_pos hkw, hdheap] at hk
          exact (mixed k n o2 o1 l2 l1 hkw hnw hk hn (by rw [Bool.and_comm]; exact hro) h2 h1 q2 q1).symm
        · rw [if_neg hkw] at hk
          obtain ⟨l1', e1, _⟩ := I.rep.1 n o1 hn
          obtain ⟨l2', e2, _⟩ := I.rep.1 k o2 hk
          have r1 := hst.le n l1' e1
          have r2 := hst.le k l2' e2
          rw [h1] at r1; rw [h2] at r2; cases r1; cases r2
          exact I.rep.2 n k o1 o2 _ _ hn hk hne hro e1 e2 q1 q2
    · cases hc : ρ n with
      | some l0 =>
        have := hst.le n l0 hc
        exact I.new n l0 h1 hc
      | none =>
        have := hrange n l hc h2
        have hmul : (i + 1) * step ≤ all.length * step := Nat.mul_le_mul_right step (by omega)
        rw [Nat.succ_mul] at hmul
        omega
    · obtain ⟨hs1, hki⟩ := freshS k hk hs
      intro n g1 g2
      cases hc : ρ' n with
      | none => rfl
      | some l =>
        have := hrange n l (I.fresh k hk hs1 n g1 g2) hc
        rcases Nat.lt_or_gt_of_ne hki with hlt | hgt
        · have hmul : (k + 1) * step ≤ i * step := Nat.mul_le_mul_right step (by omega)
          rw [Nat.succ_mul] at hmul; omega
        · have hmul : (i + 1) * step ≤ k * step := Nat.mul_le_mul_right step (by omega)
          rw [Nat.succ_mul] at hmul; omega
    · refine ⟨Nat.le_trans I.fr.size hst.fr.size, fun b hb hn => ?_, hst.fr.tape.trans I.fr.tape, hst.fr.os.trans I.fr.os, hst.fr.output.trans I.fr.output⟩
      refine (hst.fr.same b (Nat.lt_of_lt_of_le hb I.fr.size) ?_).trans (I.fr.same b hb hn)
      rintro ⟨m1, hm1, o1, l1, g1, gro, g2, g3, rfl⟩
      obtain ⟨m2, o2, l2, k1, kro, k2, k3, k4, k5⟩ := I.own m1 o1 l1 (hkey0 m1 o1 g1) g2 g3 hb
      refine hn ⟨m2, ?_, o2, l2, k1, kro.trans gro, k2, k3, k4⟩
      rcases k5 with rfl | k5
      · exact F.wrd d (List.mem_of_getElem? hDi) hwt m2 (by rw [qs.wr]; exact hm1)
      · exact k5
    · rw [addH n] at h1
      by_cases hnw : n ∈ d.w
      · rw [if_pos hnw, hdheap] at h1
        obtain ⟨m1, o', l', g1, gro, g2, g3, g4, g5⟩ := hst.own n o1 l h1 h2 h3 (Nat.lt_of_lt_of_le h4 I.fr.size)
        obtain ⟨m2, o2, l2, k1, kro, k2, k3, k4, k5⟩ := I.own m1 o' l' (hkey0 m1 o' g1) g2 g3 (by rw [g4]; exact h4)
        refine ⟨m2, o2, l2, k1, kro.trans gro, k2, k3, k4.trans g4, ?_⟩
        have hin : ∀ q ∈ h0.wr, q ∈ s'.hp.wr := fun q hq => F.wrd d (List.mem_of_getElem? hDi) hwt q (by rw [qs.wr]; exact hq)
        rcases k5 with rfl | k5
        · rcases g5 with rfl | g5
          · exact .inl rfl
          · exact .inr (hin _ g5)
        · exact .inr k5
      · rw [if_neg hnw] at h1
        obtain ⟨l', hl', _⟩ := I.rep.1 n o1 h1
        have := hst.le n l' hl'
        rw [h2] at this; cases this
        exact I.own n o1 _ h1 hl' h3 h4

def lst (listed : Array Bool) : Nat → Bool := fun k => listed.getD k false

theorem lst_set {listed : Array Bool} {i : Nat} (hi : i < listed.size) (k : Nat) : lst (listed.setIfInBounds i true) k = if k = i then true else lst listed k := by
  unfold lst
  simp only [Array.getD_eq_getD_getElem?]
  by_cases h : k = i
  · subst h; simp [hi]
  · rw [Array.getElem?_setIfInBounds_ne (Ne.symm h), if_neg h]

theorem least_out (S : Nat → Bool) : ∀ n, (∀ k, k < n → S k = true) ∨ ∃ i, i < n ∧ S i = false ∧ ∀ k, k < i → S k = true
  | 0 => .inl (fun k hk => by omega)
  | n + 1 => by
    rcases least_out S n with h | ⟨i, h1, h2, h3⟩
    · cases hs : S n with
      | true => exact .inl (fun k hk => by by_cases hkn : k = n; · rw [hkn]; exact hs
                                           · exact h k (by omega))
      | false => exact .inr ⟨n, by omega, hs, h⟩
    · exact .inr ⟨i, by omega, h2, h3⟩

theorem count_out {listed : Array Bool} (h : listed.toList.countP (fun b => !b) = 0) : ∀ k, k < listed.size → lst listed k = true := by
  intro k hk
  rw [List.countP_eq_zero] at h
  have := h listed[k] (by simp)
  unfold lst
  simp [Array.getD_eq_getD_getElem?, hk]
  simpa using this

theorem mem_ready {ops : Array Oper} {listed : Array Bool} {i : Nat} (hsz : listed.size = ops.size) : i ∈ Region.ready .any ops listed ↔ ∃ o, ops[i]? = some o ∧ lst listed i = false ∧ ∀ e ∈ o.after.toList, Region.binds .any e = true → lst listed e.on = true := by
  unfold Region.ready lst
  simp only [List.mem_filter, List.mem_range, Bool.and_eq_true, Bool.not_eq_true']
  constructor
  · rintro ⟨h1, h2, h3⟩
    have ho : ops[i]? = some ops[i] := Array.getElem?_eq_getElem h1
    refine ⟨_, ho, ?_, ?_⟩
    · simp only [Array.getD_eq_getD_getElem?] at h2 ⊢
      rw [Array.getElem?_eq_getElem (by omega)] at h2 ⊢
      exact h2
    · rw [ho] at h3
      simp only [Option.map_some, Option.getD_some, Array.all_eq_true'] at h3
      intro e he hb
      have := h3 e (by simpa using he)
      simpa [hb] using this
  · rintro ⟨o, ho, h2, h3⟩
    have hi : i < ops.size := (Array.getElem?_eq_some_iff.1 ho).1
    refine ⟨hi, ?_, ?_⟩
    · simp only [Array.getD_eq_getD_getElem?] at h2 ⊢
      rw [Array.getElem?_eq_getElem (by omega)] at h2 ⊢
      exact h2
    · rw [ho]
      simp only [Option.map_some, Option.getD_some, Array.all_eq_true']
      intro e he
      cases hb : Region.binds .any e with
      | false => simp
      | true => simpa using h3 e (by simpa using he) hb

theorem draw_any {E : Env} {m : Nat} {all : List Oper} {s s' : St} {lo step : Nat} {D : List DR} (F : DFacts E m all s lo step D s') (hoper : ∀ m' tm op hp v h', m' < m → oper E m' tm op hp = some (v, h') → OpOk E.P tm op hp v h')
    (hob : Obs s'.hp) {ancs : List Nat} (hanc : ancAll [] all = some ancs) (hord : orderlyAll D ancs D 0 = true) {ρ0 : Ren} (G0 : GOk ρ0) {w0 : World} {Q : Exit → Act → World → Prop}
    (hQ : ∀ ρ a w, DInv E.P D s s' lo step all.length ρ0 w0 (fun _ => true) ρ a w → Q .normal a w) :
    ∀ (fuel : Nat) (listed : Array Bool) (ρ : Ren) (a : Act) (w : World), listed.size = all.length → listed.toList.countP (fun b => !b) = fuel → (∀ (i : Nat) o, all[i]? = some o → lst listed i = true → ∀ e ∈ o.after.toList, Region.binds .any e = true → lst listed e.on = true) →
      DInv E.P D s s' lo step all.length ρ0 w0 (lst listed) ρ a w → wpAny E.P .any all.toArray Q fuel listed a w := by
  have hfin : ∀ (listed : Array Bool) ρ a w, (∀ k, k < all.length → lst listed k = true) → DInv E.P D s s' lo step all.length ρ0 w0 (lst listed) ρ a w → Q .normal a w := by
    intro listed ρ a w hall I
    have hT : ∀ t, cur (fun t => s.tmps[t]?) (wrT D s.tmps.length) (fun _ => true) all.length t = cur (fun t => s.tmps[t]?) (wrT D s.tmps.length) (lst listed) all.length t := fun t => cur_congr _ (fun k hk => (hall k hk).symm)
    have hH : ∀ n, cur (get s.hp.heap) (wrH D) (fun _ => true) all.length n = cur (get s.hp.heap) (wrH D) (lst listed) all.length n := fun t => cur_congr _ (fun k hk => (hall k hk).symm)
    exact hQ ρ a w ⟨I.size, fun t v h => I.rel t v (by rw [← hT]; exact h), I.defers, ⟨fun n o h => I.rep.1 n o (by rw [← hH]; exact h), fun n m o o' l l' h h' => I.rep.2 n m o o' l l' (by rw [← hH]; exact h) (by rw [← hH]; exact h')⟩, I.le, I.new, fun k hk hs => (by cases hs), I.fr, fun n o l h => I.own n o l (by rw [← hH]; exact h)⟩
  have hsz : ∀ (listed : Array Bool), listed.size = all.length → listed.size = all.toArray.size := fun l h => by simpa using h
  have hnil : ∀ (listed : Array Bool), listed.size = all.length → Region.ready .any all.toArray listed = [] → ∀ k, k < all.length → lst listed k = true := by
    intro listed hs hr
    rcases least_out (lst listed) all.length with h | ⟨i, h1, h2, h3⟩
    · exact h
    · exfalso
      have hi : i ∈ Region.ready .any all.toArray listed := by
        rw [mem_ready (hsz _ hs)]
        refine ⟨all[i], by simp [h1], h2, fun e he hb => h3 _ ?_⟩
        obtain ⟨g1, g2, g3⟩ := ancAll_spec all [] ancs hanc
        obtain ⟨x, _, hx⟩ := g3 i all[i] (List.getElem?_eq_getElem h1)
        have := ancOf_edge hx e he hb
        simp at this
        omega
      rw [hr] at hi; cases hi
  intro fuel
  induction fuel with
  | zero =>
    intro listed ρ a w hs hc hdc I
    have hall := count_out hc
    rw [hs] at hall
    refine ⟨?_, hfin listed ρ a w hall I⟩
    rw [List.eq_nil_iff_forall_not_mem]
    intro i hi
    rw [mem_ready (hsz _ hs)] at hi
    obtain ⟨o, ho, h1, _⟩ := hi
    have : i < all.length := by have := (Array.getElem?_eq_some_iff.1 ho).1; simpa using this
    rw [hall i this] at h1; cases h1
  | succ fuel ih =>
    intro listed ρ a w hs hc hdc I
    refine ⟨fun hr => hfin listed ρ a w (hnil listed hs hr) I, fun i hi => ?_⟩
    rw [mem_ready (hsz _ hs)] at hi
    obtain ⟨o, ho, h1, h2⟩ := hi
    have ho' : all[i]? = some o := by simpa using ho
    have hiN : i < all.length := (List.getElem?_eq_some_iff.1 ho').1
    refine draw_step F hoper hob hord G0 I ho' h1 (S' := lst (listed.setIfInBounds i true)) (lst_set (by omega)) ?_ ?_ (fun ρ' a' w' I' => ih _ ρ' a' w' (by simp [hs]) ?_ ?_ I')
    · intro x hx k hk
      exact (anc_closed hanc hdc (i + 1) i o x (by omega) ho' hx h2 k hk).1
    · intro k x hk hx hb
      obtain ⟨g1, g2, g3⟩ := ancAll_spec all [] ancs hanc
      have hkN : k < all.length := by have := (List.getElem?_eq_some_iff.1 hx).1; simp at g1; omega
      exact (anc_closed hanc hdc (k + 1) k all[k] x (by omega) (List.getElem?_eq_getElem hkN) hx (hdc k _ (List.getElem?_eq_getElem hkN) hk) i hb).1
    · have hl : listed.toList[i]'(by simp; omega) = false := by
        unfold lst at h1
        simp [Array.getD_eq_getD_getElem?, show i < listed.size by omega] at h1
        simpa using h1
      rw [Array.toList_setIfInBounds, List.countP_set (by simp; omega), hl, hc]
      simp
    · intro j o' hj hlj e he hb
      rw [lst_set (by omega)] at hlj ⊢
      by_cases hji : j = i
      · subst hji
        rw [ho'] at hj; cases hj
        split
        · rfl
        · exact h2 e he hb
      · rw [if_neg hji] at hlj
        split
        · rfl
        · exact hdc j o' hj hlj e he hb

/-- A region that draws its order. -/
theorem draw_region {E : Env} (G : Good E.P) {m : Nat} {ops : Array Oper} {id : Nat} {s : St} {s' : St} {D : List DR} {hs : List (Nat × List Hint)} (hoper : ∀ m' tm op hp v h', m' < m → oper E m' tm op hp = some (v, h') → OpOk E.P tm op hp v h') {ancs : List Nat} (hanc : ancAll [] ops.toList = some ancs)
    {s1 : St} (h1 : s1.tmps = s.tmps) (h2 : s1.hp.heap = s.hp.heap) (h3 : s1.hp.nxt = s.hp.nxt) (h4 : s1.hp.hi = s.hp.hi) (h5 : s1.hp.wr = s.hp.wr) (h6 : s1.hp.ob = s.hp.ob) {step : Nat}
    (e : drawOps E m ops.toList 0 ops.toList s.hp.nxt step hs s1 = some (D, s')) (hord : orderlyAll D ancs D 0 = true) : ExOk E.P (.region id ops true) s .norm s' := by
  have r := draw_run E ops.toList hs step s.hp.nxt s1 m ops.toList 0 s1 D s' [] [] (by simpa using e) rfl rfl rfl rfl
  have F : DFacts E m ops.toList s1 s.hp.nxt step D s' :=
    ⟨r.len, fun j d hj => by simpa using r.fact j d hj, r.tmps, r.heap, by simpa using r.nxt, by simpa using r.lim, r.hi, r.ob, r.obd, r.wr, r.wrd⟩
  have hmono : Mono s.hp s'.hp := ⟨fun p hp => F.ob p (by rw [h6]; exact hp), by rw [F.nxt]; omega, by rw [F.hi, h4], fun n hn => F.wr n (by rw [h5]; exact hn)⟩
  refine ⟨hmono, fun ho ρ a w Q pre post => ?_⟩
  refine wp_region_any G.mixed ?_
  have hinit : ∀ k, lst (Array.replicate ops.size false) k = false := by
    intro k
    unfold lst
    simp only [Array.getD_eq_getD_getElem?, Array.getElem?_replicate]
    split <;> rfl
  have hl : ops.size = ops.toList.length := by simp
  have hsz : a.tmps.size = s1.tmps.length := by have := pre.rel.1; rw [h1]; simp at this; omega
  have hfr : ∀ b, Fr w { w with drawn := w.drawn + 1 } b := fun b => ⟨Nat.le_refl _, fun _ _ _ => rfl, rfl, rfl, rfl⟩
  have I0 : DInv E.P D s1 s' s.hp.nxt step ops.toList.length ρ w (lst (Array.replicate ops.size false)) ρ a { w with drawn := w.drawn + 1 } := by
    refine ⟨hsz, fun t v hv => ?_, pre.defers, ⟨fun n o hn => ?_, fun n m o o' l l' hn hm => ?_⟩, Le.refl ρ, fun n l a b => (by rw [a] at b; cases b), fun k hk _ n g1 g2 => ?_, hfr _, fun n o l hn q1 q2 _ => ?_⟩
    · rw [cur_none hinit, h1] at hv
      obtain ⟨x, hx, hr⟩ := pre.rel.2 t v hv
      exact ⟨x, by simpa using hx, hr⟩
    · rw [cur_none hinit, h2] at hn
      exact (pre.rep.congr (w' := { w with drawn := w.drawn + 1 }) rfl).1 n o hn
    · rw [cur_none hinit, h2] at hn hm
      exact pre.rep.2 n m o o' l l' hn hm
    · have hlim := F.lim
      rw [h4] at hlim
      have hmul : (k + 1) * step ≤ ops.toList.length * step := Nat.mul_le_mul_right step (by omega)
      rw [Nat.succ_mul] at hmul
      exact pre.fresh n (by omega) (by omega)
    · rw [cur_none hinit] at hn
      exact ⟨n, o, l, hn, rfl, q1, q2, rfl, .inl rfl⟩
  have key := draw_any F hoper ho hanc hord (ρ0 := ρ) pre.glob (w0 := w) (Q := Q) (fun ρ' a' w' I => ?_) ops.size (Array.replicate ops.size false) ρ a { w with drawn := w.drawn + 1 } (by simp) (by simp [List.countP_replicate]) (fun i o _ h => by rw [hinit] at h; cases h) I0
  · simpa using key
  ·
    have hN : D.length = ops.toList.length := F.len
    have hT : ∀ t, s'.tmps[t]? = cur (fun t => s1.tmps[t]?) (wrT D s1.tmps.length) (fun _ => true) ops.toList.length t := by
      intro t
      rw [F.tmps, ← curT_after D s1.tmps ops.toList.length (by omega) t, ← hN, List.take_length]
    have hH : ∀ n, get s'.hp.heap n = cur (get s1.hp.heap) (wrH D) (fun _ => true) ops.toList.length n := by
      intro n
      rw [F.heap, ← curH_after D s1.hp.heap ops.toList.length (by omega) n, ← hN, List.take_length]
    refine post ρ' a' w' ⟨by rw [F.tmps, afterT_length]; simp [I.size], fun k v hv => ?_⟩ I.defers ⟨I.le, fun n l q1 q2 => ?_, ⟨fun n o hn => I.rep.1 n o (by rw [← hH]; exact hn), fun n m o o' l l' hn hm => I.rep.2 n m o o' l l' (by rw [← hH]; exact hn) (by rw [← hH]; exact hm)⟩, ?_, fun n o l hn q1 q2 q3 => ?_⟩
    · obtain ⟨x, hx, hr⟩ := I.rel k v (by rw [← hT]; exact hv)
      exact ⟨x, by simpa using hx, hr⟩
    · rw [F.nxt]; exact I.new n l q1 q2
    · rw [← h2]; exact I.fr
    · rw [← h2]; exact I.own n o l (by rw [← hH]; exact hn) q1 q2 q3

end Go.Ev
