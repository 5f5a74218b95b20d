/-
  Contracts of functions that read a table alone: plain values in, plain values out.
-/
import Derived.Test.YtmhjecenmgbpeaaDoorEvLaw
set_option linter.unusedSimpArgs false
set_option linter.unusedVariables false
namespace Go.Ev
def TabIs (vs : List Value) (F : Nat → Nat → AV) : Prop := ∀ j, j < vs.length → F 0 j = tabF vs 0 j
theorem tabIs_self (vs : List Value) : TabIs vs (tabF vs) := fun _ _ => rfl
def allScalar : List AV → Bool
  | [] => true
  | x :: r => match scalar x with
    | true => allScalar r
    | false => false
def flatV : AV → Bool
  | .agg l => allScalar l
  | .tup l => allScalar l
  | v => scalar v
def allFlat : List AV → Bool
  | [] => true
  | x :: r => match flatV x with
    | true => allFlat r
    | false => false
theorem den_scalar {v : AV} (h : scalar v = true) (ρ ρ' : Ren) : den ρ v = den ρ' v := by
  unfold scalar at h
  split at h <;> first | (cases h; done) | simp [den, denL]
theorem denL_scalar : ∀ {l : List AV}, allScalar l = true → ∀ (ρ ρ' : Ren), denL ρ l = denL ρ' l
  | [], _, _, _ => rfl
  | x :: r, h, ρ, ρ' => by
    unfold allScalar at h
    split at h
    · rename_i hx
      simp only [denL, den_scalar hx ρ ρ', denL_scalar h ρ ρ']
    · cases h
theorem den_flat {v : AV} (h : flatV v = true) (ρ ρ' : Ren) : den ρ v = den ρ' v := by
  unfold flatV at h
  split at h
  · simp only [den, denL_scalar h ρ ρ']
  · simp only [den, denL_scalar h ρ ρ']
  · exact den_scalar h ρ ρ'
theorem denL_flat : ∀ {l : List AV}, allFlat l = true → ∀ (ρ ρ' : Ren), denL ρ l = denL ρ' l
  | [], _, _, _ => rfl
  | x :: r, h, ρ, ρ' => by
    unfold allFlat at h
    split at h
    · rename_i hx
      simp only [denL, den_flat hx ρ ρ', denL_flat h ρ ρ']
    · cases h
theorem relS_flat {v : AV} (h : flatV v = true) {ρ ρ' : Ren} {x : Value} (r : relS ρ v x) : relS ρ' v x :=
  r.imp id (fun e => by rw [den_flat h ρ' ρ]; exact e)

/-- A call that reads one table, and changes nothing. -/
def TabPure (P : Program) (f : FuncId) (la : List AV) (v : AV) (ob : List Prop) (g : Nat) (vs : List Value) : Prop :=
  ∀ ρ w, (∀ p ∈ ob, p) → HeapRep P ρ [(gnm g, tabAO vs)] w → Fresh ρ 0 (gnm 0) → GOk ρ → ∀ xs, denL ρ la = some xs →
    Calls P f xs.toArray w fun e w' => ∃ x, e = .returned x ∧ relS ρ v x ∧ Fr w w' (fun _ => False)

theorem tabPure_of_loc {P : Program} {f : FuncId} {la : List AV} {v : AV} {ob : List Prop} {g : Nat} {vs : List Value} (hv : flatV v = true)
    (h : LocOk P f la [(gnm g, tabAO vs)] ⟨0, v, [(gnm g, tabAO vs)], 0, [], ob⟩) : TabPure P f la v ob g vs := by
  intro ρ w hob hr hf hg xs hx
  refine (h ρ w hob hr (fun n h1 h2 => hf n (Nat.zero_le _) h2) hg xs hx).mono fun e w' ⟨x, ρ', he, hx, st⟩ => ⟨x, he, relS_flat hv hx, ?_⟩
  exact st.fr.mono (fun b ⟨m, hm, _⟩ => by cases hm)

theorem tabPure_closed {E : Env} (hE : EnvOk E) {fuel f g : Nat} {vs : List Value} {v : AV} (hv : flatV v = true)
    (h : (callF E fuel f [] ⟨[(gnm g, tabAO vs)], 0, gnm 0, [], [], [], true⟩).map (fun x => (x.1, x.2.ob)) = some (v, [])) : TabPure E.P f [] v [] g vs := by
  intro ρ w hob hr hf hg xs hx
  simp [denL] at hx
  subst hx
  cases hc : callF E fuel f [] ⟨[(gnm g, tabAO vs)], 0, gnm 0, [], [], [], true⟩ with
  | none => rw [hc] at h; cases h
  | some y =>
    rw [hc] at h
    simp only [Option.map_some, Option.some.injEq, Prod.mk.injEq] at h
    obtain ⟨v', h1⟩ := y
    obtain ⟨rfl, h2⟩ := h
    have := ((all_ok hE fuel).ca f [] _ _ h1 hc).wp (by intro p hp; rw [h2] at hp; cases hp) ρ w hr hf hg [] rfl
    refine this.mono fun e w' ⟨x, ρ', he, hx, st⟩ => ⟨x, he, relS_flat hv hx, ?_⟩
    refine ⟨st.fr.size, fun b hb hn => st.fr.same b hb (fun ⟨m, hm, o, l, e, ero, _⟩ => ?_), st.fr.tape, st.fr.os, st.fr.output⟩
    simp only [get] at e
    split at e
    · cases e; cases ero
    · cases e

theorem tabPure_true {P : Program} {f : FuncId} {la : List AV} {ob : List Prop} {g : Nat} {vs : List Value} {v : AV} (hv : isTrue v) (h : TabPure P f la v ob g vs) : TabPure P f la (.bool true) ob g vs := by
  intro ρ w hob hr hf hg xs hx
  refine (h ρ w hob hr hf hg xs hx).mono fun e w' ⟨x, he, hx, st⟩ => ⟨x, he, ?_, st⟩
  rcases hv with rfl | rfl
  · exact hx
  · exact hx.imp (fun e => by cases e) (fun e => by simpa [den] using e)

theorem arr_tab {P : Program} {ρ ρ' : Ren} {w : World} {l : Loc} {vs : List Value} {F : Nat → Nat → AV} (hp : plainB vs = true) (hF : TabIs vs F) (ho : ObjRep P ρ w l (.arr vs.length (vs.map kindOfV) true 1 F)) : ObjRep P ρ' w l (tabAO vs) := by
  obtain ⟨q1, q2, q3, q4, q5⟩ := ho
  refine ⟨q1, q2, q3, q4, fun hcap => ?_⟩
  obtain ⟨c, t, fr, r1, r2, r3, r4⟩ := q5 hcap
  refine ⟨c, t, fr, r1, r2, r3, fun i hi j k hj => ?_⟩
  obtain rfl : i = 0 := by omega
  have hlt : j < vs.length := by
    have := (List.getElem?_eq_some_iff.1 hj).1
    simpa using this
  obtain ⟨s1, x, s2, s3⟩ := r4 0 hi j k hj
  rw [hF j hlt] at s1 s3
  refine ⟨s1, x, s2, ?_⟩
  have hv : vs[j]? = some vs[j] := List.getElem?_eq_getElem hlt
  have e : tabF vs 0 j = ofVal vs[j] := by simp [tabF, nth_get, hv]
  rw [e] at s3 ⊢
  rcases plainB_get vs hp j _ hv with ⟨k, n, hk⟩ | ⟨b, hk⟩ <;> (rw [hk] at s3 ⊢; simpa [ofVal, cellOf, den] using s3)

/-- .. as a contract, whatever else lies there. -/
def tabSP (g : Nat) (vs : List Value) (s : List AV → Option (AV × List Prop)) : SP := fun args h => match get h.heap (gnm g), s (nrmL args) with
  | some (.arr n sh ro len F), some (v, ob) => match Nat.beq n vs.length && (shBeq sh (vs.map kindOfV) && (ro && (Nat.beq len 1 && (allFlat (nrmL args) && flatV v)))) with
    | true => some (v, ⟨h.heap, h.nxt, h.hi, h.hints, TabIs vs F :: (ob ++ h.ob), h.wr, h.auto⟩)
    | false => none
  | _, _ => none

theorem tabSP_ok {P : Program} {f : FuncId} {g : Nat} {vs : List Value} {s : List AV → Option (AV × List Prop)} (hp : plainB vs = true) (H : ∀ la v ob, s la = some (v, ob) → TabPure P f la v ob g vs) : SPOk P f (tabSP g vs s) := by
  intro args h v h' e
  unfold tabSP at e
  split at e
  case h_2 => cases e
  rename_i n sh ro len F v1 ob hgt hs
  split at e
  case h_2 => cases e
  rename_i hb
  cases e
  simp only [Bool.and_eq_true] at hb
  obtain ⟨e1, e2, e3, e4, e5, e6⟩ := hb
  have e1 := Nat.eq_of_beq_eq_true e1; subst e1
  have e2 := shBeq_eq e2; subst e2
  subst e3
  have e4 := Nat.eq_of_beq_eq_true e4; subst e4
  refine ⟨⟨fun p hp => List.mem_cons_of_mem _ (List.mem_append_right _ hp), Nat.le_refl _, rfl, fun n hn => hn⟩, fun ho ρ w hr hf hG xs hx => ?_⟩
  have hF : TabIs vs F := ho _ (List.mem_cons_self ..)
  have hob : ∀ p ∈ ob, p := fun p hp => ho p (List.mem_cons_of_mem _ (List.mem_append_left _ hp))
  obtain ⟨L, hL, hrep⟩ := hr.1 _ _ hgt
  let ρ0 : Ren := fun n => if gnm 0 ≤ n then ρ n else none
  have hg0 : ∀ g, gnm 0 ≤ gnm g := fun g => by unfold gnm; omega
  have g0 : GOk ρ0 := fun g => by
    obtain ⟨l, hl, r⟩ := hG g
    exact ⟨l, by simp [ρ0, hg0 g, hl], r⟩
  have hr0 : HeapRep P ρ0 [(gnm g, tabAO vs)] w := by
    refine ⟨fun n o e => ?_, fun n m o o' l l' e1 e2 hne => ?_⟩
    · simp only [get] at e
      split at e
      · rename_i hb; cases e
        have hb := Nat.eq_of_beq_eq_true hb
        subst hb
        exact ⟨L, by simp [ρ0, hg0 g, hL], arr_tab hp hF hrep⟩
      · cases e
    · exfalso
      simp only [get] at e1 e2
      split at e1
      · split at e2
        · rename_i a _ b
          have a := Nat.eq_of_beq_eq_true a
          have b := Nat.eq_of_beq_eq_true b
          omega
        · cases e2
      · cases e1
  have hx1 := nrmL_den _ _ hx
  have hx2 : denL ρ0 (nrmL args) = some xs := by rw [denL_flat e5 ρ0 ρ]; exact hx1
  refine (H _ _ _ hs ρ0 w hob hr0 (fun n h1 h2 => by simp [ρ0]; omega) g0 xs hx2).mono fun e w' ⟨x, he, hx, fr⟩ => ⟨x, ρ, he, relS_flat e6 hx, ?_⟩
  have same : ∀ b, b < w.heap.size → w'.heap[b]? = w.heap[b]? := fun b hb => fr.same b hb (fun h => h)
  refine ⟨Le.refl ρ, fun n l a b => (by rw [a] at b; cases b), ⟨fun n o e => ?_, hr.2⟩, ⟨fr.size, fun b hb _ => same b hb, fr.tape, fr.os, fr.output⟩, fun n o l a b c _ => ⟨n, o, l, a, rfl, b, c, rfl, .inl rfl⟩⟩
  obtain ⟨l, hl, ho⟩ := hr.1 n o e
  exact ⟨l, hl, ho.keep (Le.refl ρ) (fun hc => same _ (ho.lt hc))⟩
/-- A closed call that answers true. -/
def sNone : List AV → Option (AV × List Prop)
  | [] => some (.bool true, [])
  | _ => none
theorem sNone_ok {P : Program} {f : FuncId} {g : Nat} {vs : List Value} (h : TabPure P f [] (.bool true) [] g vs) : ∀ la v ob, sNone la = some (v, ob) → TabPure P f la v ob g vs := by
  intro la v ob e
  unfold sNone at e
  split at e
  · cases e; exact h
  · cases e
/-! ### .. in closed runs: no obligation is left -/
def avSame : AV → AV → Bool
  | .int k n, .int k' n' => match decide (k = k') with
    | true => decide (n = n')
    | false => false
  | .bool b, .bool c => match b, c with
    | true, true => true
    | false, false => true
    | _, _ => false
  | _, _ => false
theorem avSame_eq {a b : AV} (h : avSame a b = true) : a = b := by
  unfold avSame at h
  split at h
  · split at h
    · rename_i e; rw [of_decide_eq_true e, of_decide_eq_true h]
    · cases h
  · split at h
    · rfl
    · rfl
    · cases h
  · cases h
def tabBn (vs : List Value) (F : Nat → Nat → AV) : Nat → Bool
  | 0 => true
  | j + 1 => match avSame (F 0 j) (tabF vs 0 j) with
    | true => tabBn vs F j
    | false => false
theorem tabBn_ok {vs : List Value} {F : Nat → Nat → AV} : ∀ n, tabBn vs F n = true → ∀ j, j < n → F 0 j = tabF vs 0 j
  | 0, _, j, h => by omega
  | n + 1, e, j, h => by
    unfold tabBn at e
    split at e
    · rename_i q
      by_cases hj : j = n
      · subst hj; exact avSame_eq q
      · exact tabBn_ok n e j (by omega)
    · cases e
def tabSPc (g : Nat) (vs : List Value) (s : List AV → Option (AV × List Prop)) : SP := fun args h => match get h.heap (gnm g), s (nrmL args) with
  | some (.arr n sh ro len F), some (v, ob) => match Nat.beq n vs.length && (shBeq sh (vs.map kindOfV) && (ro && (Nat.beq len 1 && (allFlat (nrmL args) && flatV v)))), tabBn vs F vs.length with
    | true, true => some (v, ⟨h.heap, h.nxt, h.hi, h.hints, ob ++ h.ob, h.wr, h.auto⟩)
    | _, _ => none
  | _, _ => none
theorem tabSPc_ok {P : Program} {f : FuncId} {g : Nat} {vs : List Value} {s : List AV → Option (AV × List Prop)} (hp : plainB vs = true) (H : ∀ la v ob, s la = some (v, ob) → TabPure P f la v ob g vs) : SPOk P f (tabSPc g vs s) := by
  intro args h v h' e
  unfold tabSPc at e
  split at e
  case h_2 => cases e
  rename_i n sh ro len F v1 ob hgt hs
  split at e
  case h_2 => cases e
  rename_i hb ht
  cases e
  have q := tabSP_ok (f := f) hp H args h v ⟨h.heap, h.nxt, h.hi, h.hints, TabIs vs F :: (ob ++ h.ob), h.wr, h.auto⟩ (by unfold tabSP; rw [hgt, hs]; simp only [hb])
  refine ⟨⟨fun p hp => List.mem_append_right _ hp, Nat.le_refl _, rfl, fun n hn => hn⟩, fun ho ρ w hr hf hG xs hx => ?_⟩
  refine (q.wp (fun p hp => ?_) ρ w hr hf hG xs hx).mono fun e w' ⟨x, ρ', a, b, c⟩ => ⟨x, ρ', a, b, ⟨c.le, c.new, c.rep, c.fr, c.own⟩⟩
  rcases List.mem_cons.1 hp with rfl | hp
  · exact tabBn_ok _ ht
  · exact ho p hp
end Go.Ev
