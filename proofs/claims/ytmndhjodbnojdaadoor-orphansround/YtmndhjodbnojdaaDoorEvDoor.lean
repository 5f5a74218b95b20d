/-
  EvDoor and what follows it.
-/
import Derived.Test.YtmndhjodbnojdaaDoorEvLoc2
import Derived.MakeChecks
/-
  Package-level tables: what a listed variable's block holds, and a law's row over such a start.
-/
set_option linter.unusedSimpArgs false
set_option linter.unusedVariables false
namespace Go.Ev

/-! ### a flat datum's cells -/
mutual
def litsOf {H : Type} : DataW H → List Value
  | .lit (.int k n) => [.int k n]
  | .lit (.bool b) => [.bool b]
  | .agg l => litsOfL l
  | _ => []
def litsOfL {H : Type} : List (DataW H) → List Value
  | [] => []
  | d :: r => litsOf d ++ litsOfL r
end

def LeafOk (P : Program) (l : List TypeId) : Prop := ∀ u ∈ l, P.underlying u = some .bool ∨ ∃ k, P.underlying u = some (.int k)

section
variable {H : Type} {enc : TypeId × Value → H} {P : Program} {w : World} {base : Nat} {spare : Nat → Bool} {held : Bool}

theorem lits_fs {rec : TypeId → Option (List TypeId)} {cs : List Value} : ∀ (fs : List Field) (ds : List (DataW H)) (off : Nat) (l : List TypeId), leavesFs P rec off fs = some l → cs.length = off + l.length → ds.length = fs.length →
    (∀ (i : Nat) f, fs[i]? = some f → ∃ d, ds[i]? = some d ∧ (∀ l1, rec f.type = some l1 → (∀ u ∈ l1, u ∈ l) → (cs.drop f.offset).take (P.cellsOf f.type) = litsOf d)) → cs.drop off = litsOfL ds
  | [], ds, off, l, h, hc, hd, _ => by
    simp [leavesFs] at h; subst h
    have : ds = [] := by simpa using hd
    subst this
    simp at hc
    simp [litsOfL, List.drop_eq_nil_iff, hc]
  | f :: r, [], off, l, h, hc, hd, _ => by simp at hd
  | f :: r, d :: dr, off, l, h, hc, hd, hp => by
    simp only [leavesFs] at h
    split at h
    · rename_i l1 hoff hl1
      have hoff := Nat.eq_of_beq_eq_true hoff
      split at h
      · rename_i m hcl hm
        have hcl := Nat.eq_of_beq_eq_true hcl
        cases h
        obtain ⟨d', hd', hp0⟩ := hp 0 f rfl
        simp at hd'; subst hd'
        have h0 := hp0 l1 hl1 (fun u hu => by simp [hu])
        rw [hoff, hcl] at h0
        have ih := lits_fs (rec := rec) (cs := cs) r dr (off + l1.length) m hm (by simp at hc; omega) (by simpa using hd) (fun i g hi => by
          obtain ⟨d2, hd2, hp2⟩ := hp (i + 1) g (by simpa using hi)
          exact ⟨d2, by simpa using hd2, fun l2 hl2 hs => hp2 l2 hl2 (fun u hu => by simp [hs u hu])⟩)
        simp only [litsOfL]
        rw [← h0, ← ih, ← List.drop_drop, List.take_append_drop]
      · cases h
    · cases h

theorem lits_arr {cs : List Value} {sz : Nat} : ∀ (n : Nat) (ds : List (DataW H)) (off : Nat), cs.length = off + n * sz → ds.length = n →
    (∀ i, i < n → ∃ d, ds[i]? = some d ∧ (cs.drop (off + i * sz)).take sz = litsOf d) → cs.drop off = litsOfL ds
  | 0, ds, off, hc, hd, _ => by
    have : ds = [] := by simpa using hd
    subst this
    simp at hc
    simp [litsOfL, List.drop_eq_nil_iff, hc]
  | n + 1, [], off, hc, hd, _ => by simp at hd
  | n + 1, d :: dr, off, hc, hd, hp => by
    obtain ⟨d', hd', h0⟩ := hp 0 (by omega)
    simp at hd'; subst hd'
    have ih := lits_arr (cs := cs) (sz := sz) n dr (off + sz) (by rw [Nat.add_mul] at hc; omega) (by simpa using hd) (fun i hi => by
      obtain ⟨d2, hd2, hp2⟩ := hp (i + 1) (by omega)
      refine ⟨d2, by simpa using hd2, ?_⟩
      rw [← hp2]
      congr 2
      rw [Nat.add_mul]; omega)
    simp at h0
    simp only [litsOfL]
    rw [← h0, ← ih, ← List.drop_drop, List.take_append_drop]

theorem trod_lits : ∀ (n : Nat) (t : TypeId) (l : List TypeId), leaves P n t = some l → LeafOk P l → ∀ fuel cs x, DataW.trod enc P w base spare held fuel t cs = some x → cs = litsOf x.1
  | 0, t, l, h, _, _, _, _, _ => by simp [leaves] at h
  | n + 1, t, l, h, ho, fuel, cs, x, hx => by
    simp only [leaves] at h
    split at h
    · rename_i fs hfs
      split at h
      · rename_i l' hl'
        split at h
        · rename_i hc
          have hc := Nat.eq_of_beq_eq_true hc
          cases h
          obtain ⟨xs, m, rfl, rfl, hlen, hsz, hf⟩ := DataW.trod_struct hfs hx
          have := lits_fs (cs := cs) fs.toList (xs.map (·.1)) 0 _ hl' (by omega) (by simp; omega) (fun i f hi => by
            have hi' : fs[i]? = some f := by simpa using hi
            have hlt : i < fs.size := (Array.getElem?_eq_some_iff.1 hi').1
            rw [← hsz] at hlt
            refine ⟨xs[i].1, by simp [hlt], fun l1 hl1 hs => ?_⟩
            exact trod_lits n f.type l1 hl1 (fun u hu => ho u (hs u hu)) m _ xs[i] (by rw [hf i f hi']; simp [hlt]))
          simpa [litsOf] using this
        · cases h
      · cases h
    · rename_i hu
      cases h
      obtain ⟨b, rfl, hb⟩ := DataW.trod_bool hu hx
      rw [hb]; rfl
    · rename_i hu
      cases h
      obtain ⟨b, rfl, hb, _⟩ := DataW.trod_int hu hx
      rw [hb]; rfl
    · rename_i e hu
      cases h
      rcases ho t (by simp) with h | ⟨k, h⟩ <;> (rw [hu] at h; cases h)
    · rename_i c e he
      split at h
      · rename_i l' hl'
        split at h
        · rename_i hc1 hc2
          have hc1 := Nat.eq_of_beq_eq_true hc1
          have hc2 := Nat.eq_of_beq_eq_true hc2
          cases h
          obtain ⟨xs, m, rfl, rfl, hlen, hsz, hf⟩ := arr_trod he hx
          have := lits_arr (cs := cs) (sz := l'.length) c (xs.map (·.1)) 0 (by omega) (by simp; omega) (fun i hi => by
            have hlt : i < xs.length := by omega
            refine ⟨xs[i].1, by simp [hlt], ?_⟩
            have h1 := hf i hi
            rw [List.getElem?_eq_getElem hlt] at h1
            have ho' : LeafOk P l' := fun u hu => by
              cases c with
              | zero => omega
              | succ c => exact ho u (by simp [repL, hu])
            have := trod_lits n e l' hl' ho' m _ _ h1
            rw [hc1] at this
            simpa using this)
          simpa [litsOf] using this
        · cases h
      · cases h
    · cases h
end

/-! ### the listed variables -/
def TabsOk (P : Program) : List (String × DataW Unit) → List (Nat × List Value) → Prop
  | [], [] => True
  | (n, d) :: r, (g, vs) :: s => P.globalNamed n = some g ∧ (∃ t l, (P.globals[g]?).map (·.type) = some t ∧ leaves P 8 t = some l ∧ LeafOk P l ∧ litsOf d = vs) ∧ TabsOk P r s
  | _, _ => False

def leafB (P : Program) : List TypeId → Bool
  | [] => true
  | u :: r => match P.underlying u with
    | some .bool => leafB P r
    | some (.int _) => leafB P r
    | _ => false
theorem leafB_ok {P : Program} : ∀ (l : List TypeId), leafB P l = true → LeafOk P l
  | [], _, u, h => by cases h
  | t :: r, h, u, hu => by
    simp only [leafB] at h
    split at h
    · rename_i e
      rcases List.mem_cons.1 hu with rfl | hu
      · exact .inl e
      · exact leafB_ok r h u hu
    · rename_i k e
      rcases List.mem_cons.1 hu with rfl | hu
      · exact .inr ⟨k, e⟩
      · exact leafB_ok r h u hu
    · cases h
def valEq : Value → Value → Bool
  | .int k n, .int k' n' => decide (k = k') && decide (n = n')
  | .bool b, .bool b' => b == b'
  | _, _ => false
def valsEq : List Value → List Value → Bool
  | [], [] => true
  | v :: r, w :: s => valEq v w && valsEq r s
  | _, _ => false
theorem valsEq_ok : ∀ (a b : List Value), valsEq a b = true → a = b
  | [], [], _ => rfl
  | [], _ :: _, h => by simp [valsEq] at h
  | _ :: _, [], h => by simp [valsEq] at h
  | v :: r, w :: s, h => by
    simp only [valsEq, Bool.and_eq_true] at h
    rw [valsEq_ok r s h.2]
    have h1 := h.1
    unfold valEq at h1
    split at h1
    · simp only [Bool.and_eq_true, decide_eq_true_eq] at h1
      rw [h1.1, h1.2]
    · simp only [beq_iff_eq] at h1
      rw [h1]
    · cases h1
def tabsOkB (P : Program) : List (String × DataW Unit) → List (Nat × List Value) → Bool
  | [], [] => true
  | (n, d) :: r, (g, vs) :: s => match decide (P.globalNamed n = some g), (P.globals[g]?).map (·.type) with
    | true, some t => match leaves P 8 t with
      | some l => leafB P l && valsEq (litsOf d) vs && tabsOkB P r s
      | none => false
    | _, _ => false
  | _, _ => false
theorem tabsOkB_ok {P : Program} : ∀ {laid : List (String × DataW Unit)} {tabs : List (Nat × List Value)}, tabsOkB P laid tabs = true → TabsOk P laid tabs
  | [], [], _ => trivial
  | [], _ :: _, h => by simp [tabsOkB] at h
  | _ :: _, [], h => by simp [tabsOkB] at h
  | (n, d) :: r, (g, vs) :: s, h => by
    simp only [tabsOkB] at h
    split at h
    · rename_i t h1 h2
      split at h
      · rename_i l hl
        simp only [Bool.and_eq_true] at h
        exact ⟨of_decide_eq_true h1, ⟨t, l, h2, hl, leafB_ok l h.1.1, valsEq_ok _ _ h.1.2⟩, tabsOkB_ok h.2⟩
      · cases h
    · cases h

theorem tabs_of {P : Program} {W : World} (full : List MemPlace) (hf : ∀ b off, MemPlace.cell b off ∈ full → ∃ c t, W.heap[b]? = some (.cells c t (0, 0))) :
    ∀ (laid : List (String × DataW Unit)) (tabs : List (Nat × List Value)) (ps : List MemPlace), TabsOk P laid tabs → DataW.LaidVars P W laid ps → (∀ x ∈ ps, x ∈ full) →
      ∀ g vs, (g, vs) ∈ tabs → vs ≠ [] → ∃ t, W.heap[g]? = some (.cells vs.toArray t (0, 0))
  | [], [], ps, _, _, _, g, vs, hm, _ => by cases hm
  | [], _ :: _, ps, h, _, _, _, _, _, _ => h.elim
  | _ :: _, [], ps, h, _, _, _, _, hm, _ => by cases hm
  | (n, d) :: r, (g0, v0) :: s, ps, ht, hl, hs, g, vs, hm, hne => by
    obtain ⟨hg, ⟨t, l, h1, h2, h3, h4⟩, hr⟩ := ht
    obtain ⟨g1, t1, cs, fuel, p, q, e1, e2, e3, e4, e5, rfl⟩ := hl
    rcases List.mem_cons.1 hm with e | hm
    · cases e
      obtain rfl := Option.some.inj (hg.symm.trans e1)
      obtain rfl := Option.some.inj (h1.symm.trans e2)
      have hcs := trod_lits 8 t l h2 h3 fuel _ _ e4
      simp only at hcs
      rw [h4] at hcs
      simp only [World.var?, e1, Option.bind_some] at e3
      split at e3
      · rename_i c tt fr hW
        cases e3
        have hlen : 0 < cs.size := by
          have : cs.toList ≠ [] := by rw [hcs]; exact hne
          rcases Nat.eq_zero_or_pos cs.size with h | h
          · exact (this (by simpa using h)).elim
          · exact h
        obtain ⟨c2, t2, h0⟩ := hf g0 0 (hs _ (by
          simp only [List.mem_append]
          refine .inl (.inl ?_)
          simp only [MemPlace.row, List.mem_map, List.mem_range]
          exact ⟨0, hlen, by simp⟩))
        rw [hW] at h0
        cases h0
        exact ⟨tt, by rw [hW, ← hcs]⟩
      · cases e3
    · exact tabs_of full hf r s q hr e5 (fun x hx => hs x (by simp [hx])) g vs hm hne

theorem tabs_laid {P : Program} {W : World} {laid : List (String × DataW Unit)} {tabs : List (Nat × List Value)} (hp : (laid.all fun x => x.2.handleName?.isNone) = true) (ht : TabsOk P laid tabs) (h : laidMetH P laid W) :
    ∀ g vs, (g, vs) ∈ tabs → vs ≠ [] → ∃ t, W.heap[g]? = some (.cells vs.toArray t (0, 0)) := by
  rw [MakeChecks.laidMetH_plain _ _ _ hp] at h
  obtain ⟨ps, hl, _, hc⟩ := h
  exact tabs_of ps (fun b off hb => (hc b off hb).1) laid tabs ps ht hl (fun x hx => hx)

/-! ### a table as an object that is only read -/
def kindOfV : Value → CK
  | .int k _ => .int k
  | .bool _ => .bool
  | _ => .val
def tabF (vs : List Value) : Nat → Nat → AV := fun _ j => match nth vs j with
  | some v => ofVal v
  | none => .top
def tabAO (vs : List Value) : AO := .arr vs.length (vs.map kindOfV) true 1 (tabF vs)
def plainB : List Value → Bool
  | [] => true
  | .int _ _ :: r => plainB r
  | .bool _ :: r => plainB r
  | _ => false

theorem nth_get {α : Type} : ∀ (l : List α) (j : Nat), nth l j = l[j]?
  | [], j => by simp [nth]
  | x :: r, 0 => rfl
  | x :: r, j + 1 => by simp [nth, nth_get r j]

theorem plainB_get : ∀ (vs : List Value), plainB vs = true → ∀ (j : Nat) v, vs[j]? = some v → (∃ k n, v = .int k n) ∨ ∃ b, v = .bool b
  | [], _, j, v, e => by simp at e
  | x :: r, h, j, v, e => by
    unfold plainB at h
    split at h
    · rename_i e0; cases e0
    · rename_i e0; cases e0
      cases j with
      | zero => simp at e; subst e; exact .inl ⟨_, _, rfl⟩
      | succ j => exact plainB_get _ h j v (by simpa using e)
    · rename_i e0; cases e0
      cases j with
      | zero => simp at e; subst e; exact .inr ⟨_, rfl⟩
      | succ j => exact plainB_get _ h j v (by simpa using e)
    · cases h

theorem tab_rep {P : Program} {ρ : Ren} {W : World} {g : Nat} {vs : List Value} {t : TypeId} (hp : plainB vs = true) (h : W.heap[g]? = some (.cells vs.toArray t (0, 0))) {F : Nat → Nat → AV} (hF : ∀ j, j < vs.length → F 0 j = tabF vs 0 j) :
    ObjRep P ρ W ⟨g, 0, vs.length, 1, false⟩ (.arr vs.length (vs.map kindOfV) true 1 F) := by
  refine ⟨rfl, by simp, Nat.le_refl _, (fun e => (by cases e)), fun _ => ⟨vs.toArray, t, (0, 0), h, (fun e => (by cases e)), by simp, fun i hi j k hj => ?_⟩⟩
  obtain rfl : i = 0 := by omega
  have hlt : j < vs.length := by
    have := (List.getElem?_eq_some_iff.1 hj).1
    simpa using this
  have hv : vs[j]? = some vs[j] := List.getElem?_eq_getElem hlt
  simp only [List.getElem?_map, hv, Option.map_some, Option.some.injEq] at hj
  subst hj
  rw [hF j hlt]
  have e : tabF vs 0 j = ofVal vs[j] := by simp [tabF, nth_get, hv]
  rw [e]
  have hx : vs.toArray[(⟨g, 0, vs.length, 1, false⟩ : Loc).base + 0 * vs.length + j]? = some vs[j] := by simp [hlt]
  rcases plainB_get vs hp j _ hv with ⟨k, n, hk⟩ | ⟨b, hk⟩
  · rw [hk] at hx ⊢
    exact ⟨⟨n, .inl rfl⟩, _, hx, rfl⟩
  · rw [hk] at hx ⊢
    exact ⟨⟨b, .inl rfl⟩, _, hx, rfl⟩

/-! ### a start with tables -/
def widT (tabs : List (Nat × List Value)) (g : Nat) : Nat := match get tabs g with
  | some vs => vs.length
  | none => 0
def inpT (ls : List (Nat × Loc)) (tabs : List (Nat × List Value)) : Ren := fun n => match get ls n with
  | some l => some l
  | none => if gnm 0 ≤ n then some ⟨n - gnm 0, 0, widT tabs (n - gnm 0), 1, false⟩ else none
def tabsH : List (Nat × List Value) → List (Nat × AO)
  | [] => []
  | (g, vs) :: r => (gnm g, tabAO vs) :: tabsH r

theorem inpT_fresh {ls : List (Nat × Loc)} {tabs : List (Nat × List Value)} {nxt hi : Nat} (h : namesBelow nxt ls = true) (hh : hi ≤ gnm 0) : Fresh (inpT ls tabs) nxt hi := by
  intro n h1 h2
  have : ¬ gnm 0 ≤ n := by omega
  simp [inpT, get_namesBelow ls h n h1, this]
theorem gnm_sub (g : Nat) : gnm g - gnm 0 = g := by unfold gnm; omega
theorem inpT_gnm {ls : List (Nat × Loc)} {tabs : List (Nat × List Value)} {nxt : Nat} (h : namesBelow nxt ls = true) (hh : nxt ≤ gnm 0) (g : Nat) : inpT ls tabs (gnm g) = some ⟨g, 0, widT tabs g, 1, false⟩ := by
  have hg : gnm 0 ≤ gnm g := by unfold gnm; omega
  simp [inpT, get_namesBelow ls h (gnm g) (by omega), hg, gnm_sub]
theorem inpT_glob {ls : List (Nat × Loc)} {tabs : List (Nat × List Value)} {nxt : Nat} (h : namesBelow nxt ls = true) (hh : nxt ≤ gnm 0) : GOk (inpT ls tabs) :=
  fun g => ⟨_, inpT_gnm h hh g, rfl, rfl, rfl⟩
theorem inpT_of {ls : List (Nat × Loc)} {tabs : List (Nat × List Value)} {n : Nat} {l : Loc} (h : get ls n = some l) : inpT ls tabs n = some l := by simp [inpT, h]

theorem tabsH_get : ∀ (tabs : List (Nat × List Value)) (n : Nat) (o : AO), get (tabsH tabs) n = some o → ∃ g vs, n = gnm g ∧ get tabs g = some vs ∧ o = tabAO vs ∧ (g, vs) ∈ tabs
  | [], n, o, h => by simp [tabsH, get] at h
  | (g, vs) :: r, n, o, h => by
    simp only [tabsH, get] at h
    split at h
    · rename_i hb; cases h
      have hb := Nat.eq_of_beq_eq_true hb
      exact ⟨g, vs, hb.symm, by simp [get], rfl, by simp⟩
    · rename_i hb
      obtain ⟨g', vs', rfl, h2, h3, h4⟩ := tabsH_get r n o h
      refine ⟨g', vs', rfl, ?_, h3, by simp [h4]⟩
      simp only [get]
      split
      · rename_i hb'
        have hb' := Nat.eq_of_beq_eq_true hb'
        subst hb'
        simp at hb
      · exact h2

theorem get_app {α : Type} : ∀ (a b : List (Nat × α)) (n : Nat), get (a ++ b) n = (match get a n with | some x => some x | none => get b n)
  | [], b, n => by simp [get]
  | (m, x) :: r, b, n => by
    simp only [List.cons_append, get]
    split
    · rfl
    · exact get_app r b n

def plainTabs : List (Nat × List Value) → Bool
  | [] => true
  | (_, vs) :: r => match plainB vs with
    | true => match vs with
      | [] => false
      | _ => plainTabs r
    | false => false
theorem plainTabs_mem : ∀ (tabs : List (Nat × List Value)), plainTabs tabs = true → ∀ g vs, (g, vs) ∈ tabs → plainB vs = true ∧ vs ≠ []
  | [], _, g, vs, h => by cases h
  | (g0, v0) :: r, h, g, vs, hm => by
    simp only [plainTabs] at h
    split at h
    · rename_i hp
      split at h
      · cases h
      · rename_i hne
        rcases List.mem_cons.1 hm with e | hm
        · cases e; exact ⟨hp, fun e => hne (by simp [e])⟩
        · exact plainTabs_mem r h g vs hm
    · cases h

/-- Tables and rows, all only read. -/
theorem heapRepT {P : Program} {W : World} {ls : List (Nat × Loc)} {tabs : List (Nat × List Value)} {heap : List (Nat × AO)} {nxt : Nat} (hn : namesBelow nxt ls = true) (hh : nxt ≤ gnm 0)
    (ht : plainTabs tabs = true) (hW : ∀ g vs, (g, vs) ∈ tabs → vs ≠ [] → ∃ t, W.heap[g]? = some (.cells vs.toArray t (0, 0)))
    (hr : ∀ n o, get heap n = some o → o.ro = true ∧ ∃ l, get ls n = some l ∧ ObjRep P (inpT ls tabs) W l o) : HeapRep P (inpT ls tabs) (tabsH tabs ++ heap) W := by
  have both : ∀ n o, get (tabsH tabs ++ heap) n = some o → o.ro = true ∧ ∃ l, inpT ls tabs n = some l ∧ ObjRep P (inpT ls tabs) W l o := by
    intro n o e
    rw [get_app] at e
    split at e
    · rename_i x hx
      cases e
      obtain ⟨g, vs, rfl, h2, rfl, h4⟩ := tabsH_get tabs n _ hx
      obtain ⟨q1, q2⟩ := plainTabs_mem tabs ht g vs h4
      obtain ⟨t, hg⟩ := hW g vs h4 q2
      refine ⟨rfl, _, inpT_gnm hn hh g, ?_⟩
      have : widT tabs g = vs.length := by simp [widT, h2]
      rw [this]
      exact tab_rep q1 hg (fun j hj => rfl)
    · obtain ⟨h1, l, h2, h3⟩ := hr n o e
      exact ⟨h1, l, inpT_of h2, h3⟩
  refine ⟨fun n o e => (both n o e).2, fun n m o o' l l' h1 h2 _ hro => ?_⟩
  rw [(both n o h1).1, (both m o' h2).1] at hro
  cases hro

theorem run_lawG {E : Env} (hE : EnvOk E) {fuel f : Nat} {args : List AV} {heap : List (Nat × AO)} {nxt hi : Nat} {hints : List Hint} {auto : Bool} {v : AV} {ob : List Prop} {W : World} {xs : List Value} {ρ : Ren}
    (hcall : (callF E fuel f args ⟨heap, nxt, hi, hints, [], [], auto⟩).map (fun x => (x.1, x.2.ob, noneIn heap x.2.wr)) = some (v, ob, true)) (hv : isTrue v) (hob : ∀ p ∈ ob, p)
    (hrep : HeapRep E.P ρ heap W) (hx : denL ρ args = some xs) (hf : Fresh ρ nxt hi) (hg : GOk ρ) :
    Calls E.P f xs.toArray W fun e W' => e = .returned (.bool true) ∧ RowKit.Below W.heap.size W W' := by
  cases hc : callF E fuel f args ⟨heap, nxt, hi, hints, [], [], auto⟩ with
  | none => rw [hc] at hcall; cases hcall
  | some y =>
    obtain ⟨v', h'⟩ := y
    rw [hc] at hcall
    simp only [Option.map_some, Option.some.injEq, Prod.mk.injEq] at hcall
    obtain ⟨rfl, rfl, hwr⟩ := hcall
    have hC := ((all_ok hE fuel).ca f args _ v' h' hc).wp hob ρ W hrep hf hg xs hx
    refine hC.mono fun e w' ⟨x, ρ', he, hr, hst⟩ => ?_
    refine ⟨?_, hst.fr.below fun b _ ⟨m, hm, o, l, h1, _⟩ => ?_⟩
    · rw [he]
      rcases hv with rfl | rfl
      · simp [relS, den] at hr
        simp [← hr]
      · simp [relS, den] at hr
        simp [← hr]
    · rw [noneIn_get _ hwr m hm] at h1; cases h1

/-! ### a closed call that reads a table -/
def tabObs (vs : List Value) (F : Nat → Nat → AV) : Nat → List Prop
  | 0 => []
  | j + 1 => (F 0 j = tabF vs 0 j) :: tabObs vs F j
theorem tabObs_get {vs : List Value} {F : Nat → Nat → AV} : ∀ (n : Nat), (∀ p ∈ tabObs vs F n, p) → ∀ j, j < n → F 0 j = tabF vs 0 j
  | 0, _, j, h => by omega
  | n + 1, H, j, h => by
    by_cases e : j = n
    · subst e; exact H _ (List.mem_cons_self ..)
    · exact tabObs_get n (fun p hp => H p (List.mem_cons_of_mem _ hp)) j (by omega)
noncomputable def tabR (g : Nat) (vs : List Value) (F : Nat → Nat → AV) : LR := ⟨0, .bool true, [(gnm g, .arr vs.length (vs.map kindOfV) true 1 F)], 0, [], tabObs vs F vs.length⟩
theorem lives_of_tab {E : Env} (hE : EnvOk E) {fuel f g : Nat} {vs : List Value} {v0 : AV} (hp : plainB vs = true) (hv0 : isTrue v0)
    (h : (callF E fuel f [] ⟨[(gnm g, tabAO vs)], 0, gnm 0, [], [], [], true⟩).map (fun x => (x.1, x.2.ob)) = some (v0, [])) (F : Nat → Nat → AV) :
    LocOk E.P f [] [(gnm g, .arr vs.length (vs.map kindOfV) true 1 F)] (tabR g vs F) := by
  intro ρ w hob hr hf hg xs hx
  simp [denL] at hx
  subst hx
  have hF := tabObs_get _ hob
  cases hc : callF E fuel f [] ⟨[(gnm g, tabAO vs)], 0, gnm 0, [], [], [], true⟩ with
  | none => rw [hc] at h; cases h
  | some y =>
    rw [hc] at h
    simp only [Option.map_some, Option.some.injEq, Prod.mk.injEq] at h
    obtain ⟨v, h1⟩ := y
    obtain ⟨rfl, h2⟩ := h
    let ρ0 : Ren := fun n => if gnm 0 ≤ n then ρ n else none
    have hg0 : ∀ g, gnm 0 ≤ gnm g := fun g => by unfold gnm; omega
    have g0 : GOk ρ0 := fun g => by
      obtain ⟨l, hl, r⟩ := hg g
      exact ⟨l, by simp [ρ0, hg0 g, hl], r⟩
    have hr0 : HeapRep E.P ρ0 [(gnm g, tabAO vs)] w := by
      refine ⟨fun n o e => ?_, fun n m o o' l l' e1 e2 hne => ?_⟩
      · simp only [get] at e
        split at e
        · rename_i hb; cases e
          have hb := Nat.eq_of_beq_eq_true hb
          subst hb
          obtain ⟨l, hl, ho⟩ := hr.1 (gnm g) _ (by simp [get]; rfl)
          refine ⟨l, by simp [ρ0, hg0 g, hl], ?_⟩
          obtain ⟨q1, q2, q3, q4, q5⟩ := ho
          refine ⟨q1, q2, q3, q4, fun hcap => ?_⟩
          obtain ⟨c, t, fr, r1, r2, r3, r4⟩ := q5 hcap
          refine ⟨c, t, fr, r1, r2, r3, fun i hi j k hj => ?_⟩
          obtain rfl : i = 0 := by omega
          have hlt : j < vs.length := by
            have := (List.getElem?_eq_some_iff.1 hj).1
            simpa using this
          obtain ⟨s1, x, s2, s3⟩ := r4 0 hi j k hj
          rw [hF j hlt] at s1 s3
          refine ⟨s1, x, s2, ?_⟩
          have hv : vs[j]? = some vs[j] := List.getElem?_eq_getElem hlt
          have e : tabF vs 0 j = ofVal vs[j] := by simp [tabF, nth_get, hv]
          rw [e] at s3 ⊢
          rcases plainB_get vs hp j _ hv with ⟨k, n, hk⟩ | ⟨b, hk⟩ <;> (rw [hk] at s3 ⊢; simpa [ofVal, cellOf, den] using s3)
        · cases e
      · exfalso
        simp only [get] at e1 e2
        split at e1
        · split at e2
          · rename_i a _ b
            have a := Nat.eq_of_beq_eq_true a
            have b := Nat.eq_of_beq_eq_true b
            omega
          · cases e2
        · cases e1
    have := ((all_ok hE fuel).ca f [] _ _ h1 hc).wp (by intro p hp; rw [h2] at hp; cases hp) ρ0 w hr0 (fun n h1 h2 => by simp at h1 h2; simp [ρ0]; omega) g0 [] rfl
    refine this.mono fun e w' ⟨x, ρ', he, hx, hs⟩ => ⟨x, ρ, he, (by rcases hv0 with rfl | rfl <;> exact hx.imp (fun h => by cases h) (fun e => by simpa [den, tabR] using e)), ?_⟩
    have same : ∀ b, b < w.heap.size → w'.heap[b]? = w.heap[b]? := fun b hb => hs.fr.same b hb (fun ⟨m, hm, o, l, e, ero, _⟩ => by
      simp only [get] at e
      split at e
      · cases e; cases ero
      · cases e)
    refine ⟨Le.refl ρ, fun n l a b => (by rw [a] at b; cases b), ⟨fun n o e => ?_, hr.2⟩, ⟨hs.fr.size, fun b hb _ => same b hb, hs.fr.tape, hs.fr.os, hs.fr.output⟩, fun n o l a b c _ => ⟨n, o, l, a, rfl, b, c, rfl, .inl rfl⟩⟩
    obtain ⟨l, hl, ho⟩ := hr.1 n o e
    exact ⟨l, hl, ho.keep (Le.refl ρ) (fun hc => same _ (ho.lt hc))⟩

/-! ### the whole of a law's row, tables listed -/
def LawRunsT (P : Program) (f : Nat) (ts : List TypeId) (tabs : List (Nat × List Value)) : Prop :=
  ∀ (H : Type) (enc : TypeId × Value → H) (W : World) (base : Nat) (args : List Value) (ds : List (DataW H)) (p : List MemPlace),
    (∀ (j : Nat) t v, ts[j]? = some t → args[j]? = some v → Value.okWide P W .any base t v) → DataW.TrodAll enc P W 0 (fun _ => true) true ts args ds p →
    (∀ g vs, (g, vs) ∈ tabs → vs ≠ [] → ∃ t, W.heap[g]? = some (.cells vs.toArray t (0, 0))) →
    Calls P f args.toArray W fun e W' => e = .returned (.bool true) ∧ RowKit.Below W.heap.size W W'

theorem law_contractT {P : Program} {f : Nat} {fn : Func} {ts : List TypeId} {tabs : List (Nat × List Value)} (hp : fn.params = ts.toArray) (h : LawRunsT P f ts tabs) {H : Type} {enc : TypeId × Value → H} {s : ChangeSpec} {apart fresh handsOn : Bool} {tb : TypeId}
    (hl : laidOutB P = true) (hts : ∀ t ∈ fn.params.toList, P.readableRec t = true ∧ t < P.types.size) (hr : fn.resultTypes = #[tb]) (htb : P.underlying tb = some .bool) (hvars : s.vars = [])
    (hs : ∀ ds : List (DataW H), ds.length = ts.length → (s.fn H ds).results = [.lit (.bool true)] ∧ (s.fn H ds).args = ds ∧ (s.fn H ds).vars = [])
    (W : World) (base : Nat) (args : Array Value) (ds gs : List (DataW H)) (before : List MemPlace) (hval : ∀ (j : Nat) t v, fn.params[j]? = some t → args[j]? = some v → Value.okWide P W .any base t v)
    (hW : DataW.Whole enc P fn.params.toList s.vars apart W args.toList ds gs before) (htab : ∀ g vs, (g, vs) ∈ tabs → vs ≠ [] → ∃ t, W.heap[g]? = some (.cells vs.toArray t (0, 0))) :
    Calls P f args W fun e W' => ∃ v, e = .returned v ∧ s.post enc P fn apart fresh handsOn false W args v W' := by
  have hW0 := hW
  obtain ⟨p, q, hA, hV, rfl, _, _⟩ := hW0
  rw [hvars] at hV
  cases gs with
  | cons g gs => cases hV
  | nil =>
    have hlen := (trodAll_length hA).2
    rw [hp] at hA hlen
    have := h H enc W base args.toList ds p (fun j t v h1 h2 => hval j t v (by rw [hp]; simpa using h1) (by simpa using h2)) (by simpa using hA) htab
    rw [Array.toArray_toList] at this
    refine this.mono fun e W' ⟨he, hb⟩ => ⟨.bool true, he, ?_⟩
    obtain ⟨h1, h2, h3⟩ := hs ds (by simpa using hlen)
    exact law_post hl hts hr htb hvars hW (by simpa using h1) (by simpa using h2) (by simpa using h3) hb
end Go.Ev

/-
  The ends of laws: what is handed in, tables that are listed.
-/
set_option linter.unusedSimpArgs false
set_option linter.unusedVariables false
namespace Go.Ev
theorem rep_nil {P : Program} {W : World} {ls : List (Nat × Loc)} {tabs : List (Nat × List Value)} : ∀ n o, get ([] : List (Nat × AO)) n = some o → o.ro = true ∧ ∃ l, get ls n = some l ∧ ObjRep P (inpT ls tabs) W l o := fun n o e => by simp [get] at e
theorem rep_cons {P : Program} {W : World} {ls : List (Nat × Loc)} {tabs : List (Nat × List Value)} {heap : List (Nat × AO)} {m : Nat} {L : Loc} {x : AO} (ho : x.ro = true) (hl : get ls m = some L) (h : ∀ ρ, ObjRep P ρ W L x)
    (hr : ∀ n o, get heap n = some o → o.ro = true ∧ ∃ l, get ls n = some l ∧ ObjRep P (inpT ls tabs) W l o) : ∀ n o, get ((m, x) :: heap) n = some o → o.ro = true ∧ ∃ l, get ls n = some l ∧ ObjRep P (inpT ls tabs) W l o := by
  intro n o e
  simp only [get] at e
  split at e
  · rename_i hb
    have hb := Nat.eq_of_beq_eq_true hb
    subst hb
    cases e
    exact ⟨ho, L, hl, h _⟩
  · exact hr n o e
end Go.Ev

/-
  Contracts of functions that read a table alone: plain values in, plain values out.
-/
set_option linter.unusedSimpArgs false
set_option linter.unusedVariables false
namespace Go.Ev
def TabIs (vs : List Value) (F : Nat → Nat → AV) : Prop := ∀ j, j < vs.length → F 0 j = tabF vs 0 j
theorem tabIs_self (vs : List Value) : TabIs vs (tabF vs) := fun _ _ => rfl
def allScalar : List AV → Bool
  | [] => true
  | x :: r => match scalar x with
    | true => allScalar r
    | false => false
def flatV : AV → Bool
  | .agg l => allScalar l
  | .tup l => allScalar l
  | v => scalar v
def allFlat : List AV → Bool
  | [] => true
  | x :: r => match flatV x with
    | true => allFlat r
    | false => false
theorem den_scalar {v : AV} (h : scalar v = true) (ρ ρ' : Ren) : den ρ v = den ρ' v := by
  unfold scalar at h
  split at h <;> first | (cases h; done) | simp [den, denL]
theorem denL_scalar : ∀ {l : List AV}, allScalar l = true → ∀ (ρ ρ' : Ren), denL ρ l = denL ρ' l
  | [], _, _, _ => rfl
  | x :: r, h, ρ, ρ' => by
    unfold allScalar at h
    split at h
    · rename_i hx
      simp only [denL, den_scalar hx ρ ρ', denL_scalar h ρ ρ']
    · cases h
theorem den_flat {v : AV} (h : flatV v = true) (ρ ρ' : Ren) : den ρ v = den ρ' v := by
  unfold flatV at h
  split at h
  · simp only [den, denL_scalar h ρ ρ']
  · simp only [den, denL_scalar h ρ ρ']
  · exact den_scalar h ρ ρ'
theorem denL_flat : ∀ {l : List AV}, allFlat l = true → ∀ (ρ ρ' : Ren), denL ρ l = denL ρ' l
  | [], _, _, _ => rfl
  | x :: r, h, ρ, ρ' => by
    unfold allFlat at h
    split at h
    · rename_i hx
      simp only [denL, den_flat hx ρ ρ', denL_flat h ρ ρ']
    · cases h
theorem relS_flat {v : AV} (h : flatV v = true) {ρ ρ' : Ren} {x : Value} (r : relS ρ v x) : relS ρ' v x :=
  r.imp id (fun e => by rw [den_flat h ρ' ρ]; exact e)

/-- A call that reads one table, and changes nothing. -/
def TabPure (P : Program) (f : FuncId) (la : List AV) (v : AV) (ob : List Prop) (g : Nat) (vs : List Value) : Prop :=
  ∀ ρ w, (∀ p ∈ ob, p) → HeapRep P ρ [(gnm g, tabAO vs)] w → Fresh ρ 0 (gnm 0) → GOk ρ → ∀ xs, denL ρ la = some xs →
    Calls P f xs.toArray w fun e w' => ∃ x, e = .returned x ∧ relS ρ v x ∧ Fr w w' (fun _ => False)

theorem tabPure_of_loc {P : Program} {f : FuncId} {la : List AV} {v : AV} {ob : List Prop} {g : Nat} {vs : List Value} (hv : flatV v = true)
    (h : LocOk P f la [(gnm g, tabAO vs)] ⟨0, v, [(gnm g, tabAO vs)], 0, [], ob⟩) : TabPure P f la v ob g vs := by
  intro ρ w hob hr hf hg xs hx
  refine (h ρ w hob hr (fun n h1 h2 => hf n (Nat.zero_le _) h2) hg xs hx).mono fun e w' ⟨x, ρ', he, hx, st⟩ => ⟨x, he, relS_flat hv hx, ?_⟩
  exact st.fr.mono (fun b ⟨m, hm, _⟩ => by cases hm)

theorem tabPure_closed {E : Env} (hE : EnvOk E) {fuel f g : Nat} {vs : List Value} {v : AV} (hv : flatV v = true)
    (h : (callF E fuel f [] ⟨[(gnm g, tabAO vs)], 0, gnm 0, [], [], [], true⟩).map (fun x => (x.1, x.2.ob)) = some (v, [])) : TabPure E.P f [] v [] g vs := by
  intro ρ w hob hr hf hg xs hx
  simp [denL] at hx
  subst hx
  cases hc : callF E fuel f [] ⟨[(gnm g, tabAO vs)], 0, gnm 0, [], [], [], true⟩ with
  | none => rw [hc] at h; cases h
  | some y =>
    rw [hc] at h
    simp only [Option.map_some, Option.some.injEq, Prod.mk.injEq] at h
    obtain ⟨v', h1⟩ := y
    obtain ⟨rfl, h2⟩ := h
    have := ((all_ok hE fuel).ca f [] _ _ h1 hc).wp (by intro p hp; rw [h2] at hp; cases hp) ρ w hr hf hg [] rfl
    refine this.mono fun e w' ⟨x, ρ', he, hx, st⟩ => ⟨x, he, relS_flat hv hx, ?_⟩
    refine ⟨st.fr.size, fun b hb hn => st.fr.same b hb (fun ⟨m, hm, o, l, e, ero, _⟩ => ?_), st.fr.tape, st.fr.os, st.fr.output⟩
    simp only [get] at e
    split at e
    · cases e; cases ero
    · cases e

theorem tabPure_true {P : Program} {f : FuncId} {la : List AV} {ob : List Prop} {g : Nat} {vs : List Value} {v : AV} (hv : isTrue v) (h : TabPure P f la v ob g vs) : TabPure P f la (.bool true) ob g vs := by
  intro ρ w hob hr hf hg xs hx
  refine (h ρ w hob hr hf hg xs hx).mono fun e w' ⟨x, he, hx, st⟩ => ⟨x, he, ?_, st⟩
  rcases hv with rfl | rfl
  · exact hx
  · exact hx.imp (fun e => by cases e) (fun e => by simpa [den] using e)

theorem arr_tab {P : Program} {ρ ρ' : Ren} {w : World} {l : Loc} {vs : List Value} {F : Nat → Nat → AV} (hp : plainB vs = true) (hF : TabIs vs F) (ho : ObjRep P ρ w l (.arr vs.length (vs.map kindOfV) true 1 F)) : ObjRep P ρ' w l (tabAO vs) := by
  obtain ⟨q1, q2, q3, q4, q5⟩ := ho
  refine ⟨q1, q2, q3, q4, fun hcap => ?_⟩
  obtain ⟨c, t, fr, r1, r2, r3, r4⟩ := q5 hcap
  refine ⟨c, t, fr, r1, r2, r3, fun i hi j k hj => ?_⟩
  obtain rfl : i = 0 := by omega
  have hlt : j < vs.length := by
    have := (List.getElem?_eq_some_iff.1 hj).1
    simpa using this
  obtain ⟨s1, x, s2, s3⟩ := r4 0 hi j k hj
  rw [hF j hlt] at s1 s3
  refine ⟨s1, x, s2, ?_⟩
  have hv : vs[j]? = some vs[j] := List.getElem?_eq_getElem hlt
  have e : tabF vs 0 j = ofVal vs[j] := by simp [tabF, nth_get, hv]
  rw [e] at s3 ⊢
  rcases plainB_get vs hp j _ hv with ⟨k, n, hk⟩ | ⟨b, hk⟩ <;> (rw [hk] at s3 ⊢; simpa [ofVal, cellOf, den] using s3)

/-- .. as a contract, whatever else lies there. -/
def tabSP (g : Nat) (vs : List Value) (s : List AV → Option (AV × List Prop)) : SP := fun args h => match get h.heap (gnm g), s (nrmL args) with
  | some (.arr n sh ro len F), some (v, ob) => match Nat.beq n vs.length && (shBeq sh (vs.map kindOfV) && (ro && (Nat.beq len 1 && (allFlat (nrmL args) && flatV v)))) with
    | true => some (v, ⟨h.heap, h.nxt, h.hi, h.hints, TabIs vs F :: (ob ++ h.ob), h.wr, h.auto⟩)
    | false => none
  | _, _ => none

theorem tabSP_ok {P : Program} {f : FuncId} {g : Nat} {vs : List Value} {s : List AV → Option (AV × List Prop)} (hp : plainB vs = true) (H : ∀ la v ob, s la = some (v, ob) → TabPure P f la v ob g vs) : SPOk P f (tabSP g vs s) := by
  intro args h v h' e
  unfold tabSP at e
  split at e
  case h_2 => cases e
  rename_i n sh ro len F v1 ob hgt hs
  split at e
  case h_2 => cases e
  rename_i hb
  cases e
  simp only [Bool.and_eq_true] at hb
  obtain ⟨e1, e2, e3, e4, e5, e6⟩ := hb
  have e1 := Nat.eq_of_beq_eq_true e1; subst e1
  have e2 := shBeq_eq e2; subst e2
  subst e3
  have e4 := Nat.eq_of_beq_eq_true e4; subst e4
  refine ⟨⟨fun p hp => List.mem_cons_of_mem _ (List.mem_append_right _ hp), Nat.le_refl _, rfl, fun n hn => hn⟩, fun ho ρ w hr hf hG xs hx => ?_⟩
  have hF : TabIs vs F := ho _ (List.mem_cons_self ..)
  have hob : ∀ p ∈ ob, p := fun p hp => ho p (List.mem_cons_of_mem _ (List.mem_append_left _ hp))
  obtain ⟨L, hL, hrep⟩ := hr.1 _ _ hgt
  let ρ0 : Ren := fun n => if gnm 0 ≤ n then ρ n else none
  have hg0 : ∀ g, gnm 0 ≤ gnm g := fun g => by unfold gnm; omega
  have g0 : GOk ρ0 := fun g => by
    obtain ⟨l, hl, r⟩ := hG g
    exact ⟨l, by simp [ρ0, hg0 g, hl], r⟩
  have hr0 : HeapRep P ρ0 [(gnm g, tabAO vs)] w := by
    refine ⟨fun n o e => ?_, fun n m o o' l l' e1 e2 hne => ?_⟩
    · simp only [get] at e
      split at e
      · rename_i hb; cases e
        have hb := Nat.eq_of_beq_eq_true hb
        subst hb
        exact ⟨L, by simp [ρ0, hg0 g, hL], arr_tab hp hF hrep⟩
      · cases e
    · exfalso
      simp only [get] at e1 e2
      split at e1
      · split at e2
        · rename_i a _ b
          have a := Nat.eq_of_beq_eq_true a
          have b := Nat.eq_of_beq_eq_true b
          omega
        · cases e2
      · cases e1
  have hx1 := nrmL_den _ _ hx
  have hx2 : denL ρ0 (nrmL args) = some xs := by rw [denL_flat e5 ρ0 ρ]; exact hx1
  refine (H _ _ _ hs ρ0 w hob hr0 (fun n h1 h2 => by simp [ρ0]; omega) g0 xs hx2).mono fun e w' ⟨x, he, hx, fr⟩ => ⟨x, ρ, he, relS_flat e6 hx, ?_⟩
  have same : ∀ b, b < w.heap.size → w'.heap[b]? = w.heap[b]? := fun b hb => fr.same b hb (fun h => h)
  refine ⟨Le.refl ρ, fun n l a b => (by rw [a] at b; cases b), ⟨fun n o e => ?_, hr.2⟩, ⟨fr.size, fun b hb _ => same b hb, fr.tape, fr.os, fr.output⟩, fun n o l a b c _ => ⟨n, o, l, a, rfl, b, c, rfl, .inl rfl⟩⟩
  obtain ⟨l, hl, ho⟩ := hr.1 n o e
  exact ⟨l, hl, ho.keep (Le.refl ρ) (fun hc => same _ (ho.lt hc))⟩
/-- A closed call that answers true. -/
def sNone : List AV → Option (AV × List Prop)
  | [] => some (.bool true, [])
  | _ => none
theorem sNone_ok {P : Program} {f : FuncId} {g : Nat} {vs : List Value} (h : TabPure P f [] (.bool true) [] g vs) : ∀ la v ob, sNone la = some (v, ob) → TabPure P f la v ob g vs := by
  intro la v ob e
  unfold sNone at e
  split at e
  · cases e; exact h
  · cases e
/-! ### .. in closed runs: no obligation is left -/
def avSame : AV → AV → Bool
  | .int k n, .int k' n' => match decide (k = k') with
    | true => decide (n = n')
    | false => false
  | .bool b, .bool c => match b, c with
    | true, true => true
    | false, false => true
    | _, _ => false
  | _, _ => false
theorem avSame_eq {a b : AV} (h : avSame a b = true) : a = b := by
  unfold avSame at h
  split at h
  · split at h
    · rename_i e; rw [of_decide_eq_true e, of_decide_eq_true h]
    · cases h
  · split at h
    · rfl
    · rfl
    · cases h
  · cases h
def tabBn (vs : List Value) (F : Nat → Nat → AV) : Nat → Bool
  | 0 => true
  | j + 1 => match avSame (F 0 j) (tabF vs 0 j) with
    | true => tabBn vs F j
    | false => false
theorem tabBn_ok {vs : List Value} {F : Nat → Nat → AV} : ∀ n, tabBn vs F n = true → ∀ j, j < n → F 0 j = tabF vs 0 j
  | 0, _, j, h => by omega
  | n + 1, e, j, h => by
    unfold tabBn at e
    split at e
    · rename_i q
      by_cases hj : j = n
      · subst hj; exact avSame_eq q
      · exact tabBn_ok n e j (by omega)
    · cases e
def tabSPc (g : Nat) (vs : List Value) (s : List AV → Option (AV × List Prop)) : SP := fun args h => match get h.heap (gnm g), s (nrmL args) with
  | some (.arr n sh ro len F), some (v, ob) => match Nat.beq n vs.length && (shBeq sh (vs.map kindOfV) && (ro && (Nat.beq len 1 && (allFlat (nrmL args) && flatV v)))), tabBn vs F vs.length with
    | true, true => some (v, ⟨h.heap, h.nxt, h.hi, h.hints, ob ++ h.ob, h.wr, h.auto⟩)
    | _, _ => none
  | _, _ => none
theorem tabSPc_ok {P : Program} {f : FuncId} {g : Nat} {vs : List Value} {s : List AV → Option (AV × List Prop)} (hp : plainB vs = true) (H : ∀ la v ob, s la = some (v, ob) → TabPure P f la v ob g vs) : SPOk P f (tabSPc g vs s) := by
  intro args h v h' e
  unfold tabSPc at e
  split at e
  case h_2 => cases e
  rename_i n sh ro len F v1 ob hgt hs
  split at e
  case h_2 => cases e
  rename_i hb ht
  cases e
  have q := tabSP_ok (f := f) hp H args h v ⟨h.heap, h.nxt, h.hi, h.hints, TabIs vs F :: (ob ++ h.ob), h.wr, h.auto⟩ (by unfold tabSP; rw [hgt, hs]; simp only [hb])
  refine ⟨⟨fun p hp => List.mem_append_right _ hp, Nat.le_refl _, rfl, fun n hn => hn⟩, fun ho ρ w hr hf hG xs hx => ?_⟩
  refine (q.wp (fun p hp => ?_) ρ w hr hf hG xs hx).mono fun e w' ⟨x, ρ', a, b, c⟩ => ⟨x, ρ', a, b, ⟨c.le, c.new, c.rep, c.fr, c.own⟩⟩
  rcases List.mem_cons.1 hp with rfl | hp
  · exact tabBn_ok _ ht
  · exact ho p hp
end Go.Ev
