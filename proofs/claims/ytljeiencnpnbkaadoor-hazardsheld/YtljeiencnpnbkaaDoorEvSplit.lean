/-
  EvSplit and what follows it.
-/
import Derived.Test.YtljeiencnpnbkaaDoorEvApp
import Derived.Deep.Quiet
import Derived.Test.YtljeiencnpnbkaaDoorEvLoc2
import Derived.Below
/-
  A region that draws its order, in two parts: the first part's operations come up in whatever order, each of them yields its value in every world of a class; what stands behind them waits for all of them.
-/
set_option linter.unusedSimpArgs false
set_option linter.unusedVariables false
namespace Go.Ev
open Go

/-- No guards. -/
def noGuards : List Oper → Bool
  | [] => true
  | o :: r => match o.guard with
    | none => noGuards r
    | some _ => false
theorem noGuards_get : ∀ (l : List Oper), noGuards l = true → ∀ (i : Nat) o, l[i]? = some o → o.guard = none
  | [], _, i, o, h => by simp at h
  | x :: r, hg, i, o, h => by
    simp only [noGuards] at hg
    split at hg
    · rename_i hx
      cases i with
      | zero => simp at h; subst h; exact hx
      | succ i => exact noGuards_get r hg i o (by simpa using h)
    · cases hg

/-- All numbers below m are among the bits. -/
def coverB (x : Nat) : Nat → Bool
  | 0 => true
  | m + 1 => Nat.testBit x m && coverB x m
theorem coverB_get {x : Nat} : ∀ (m : Nat), coverB x m = true → ∀ k, k < m → Nat.testBit x k = true
  | 0, _, k, h => by omega
  | m + 1, hc, k, h => by
    simp only [coverB, Bool.and_eq_true] at hc
    by_cases e : k = m
    · rw [e]; exact hc.1
    · exact coverB_get m hc.2 k (by omega)
def coversB (m : Nat) : List Nat → Bool
  | [] => true
  | x :: r => coverB x m && coversB m r
theorem coversB_get {m : Nat} : ∀ (l : List Nat), coversB m l = true → ∀ (i : Nat) x, l[i]? = some x → coverB x m = true
  | [], _, i, x, h => by simp at h
  | y :: r, hc, i, x, h => by
    simp only [coversB, Bool.and_eq_true] at hc
    cases i with
    | zero => simp at h; subst h; exact hc.1
    | succ i => exact coversB_get r hc.2 i x (by simpa using h)

def allT (m : Nat) : Array Bool := Array.replicate m true
def noneT (r : Nat) : Array Bool := Array.replicate r false

theorem lst_app {a b : Array Bool} {k : Nat} : lst (a ++ b) k = if k < a.size then lst a k else lst b (k - a.size) := by
  unfold lst
  simp only [Array.getD_eq_getD_getElem?, Array.getElem?_append]
  split <;> rfl
theorem lst_none {r k : Nat} : lst (noneT r) k = false := by
  unfold lst noneT
  simp only [Array.getD_eq_getD_getElem?, Array.getElem?_replicate]
  split <;> rfl

theorem eq_allT {listed : Array Bool} (h : listed.toList.countP (fun b => !b) = 0) : listed = allT listed.size := by
  apply Array.ext
  · simp [allT]
  · intro i h1 h2
    have := count_out h i h1
    unfold lst at this
    simp [Array.getD_eq_getD_getElem?, h1] at this
    simp [allT, this]

theorem any_split {P : Program} {l1 l2 : List Oper} {C : World → Prop} {Q : Exit → Act → World → Prop} {Qa : Act → Prop} {ancs : List Nat} (hanc : ancAll [] (l1 ++ l2) = some ancs) (hcov : coversB l1.length (ancs.drop l1.length) = true) (hg : noGuards l1 = true)
    (hQ : ∀ a w, C w → Qa a → wpAny P .any (l1 ++ l2).toArray Q l2.length (allT l1.length ++ noneT l2.length) a w) :
    ∀ (fuel : Nat) (listed : Array Bool) (a : Act) (w : World), listed.size = l1.length → listed.toList.countP (fun b => !b) = fuel →
      (∀ (i : Nat) o, l1[i]? = some o → lst listed i = true → ∀ e ∈ o.after.toList, Region.binds .any e = true → lst listed e.on = true) → C w →
      wpAnyQ P .any l1.toArray C Qa fuel listed a → wpAny P .any (l1 ++ l2).toArray Q (fuel + l2.length) (listed ++ noneT l2.length) a w := by
  obtain ⟨g1, g2, g3⟩ := ancAll_spec (l1 ++ l2) [] ancs hanc
  have hback : ∀ (i : Nat) o, (l1 ++ l2)[i]? = some o → ∀ e ∈ o.after.toList, Region.binds .any e = true → e.on < i := by
    intro i o ho e he hb
    obtain ⟨x, _, hx⟩ := g3 i o ho
    have := ancOf_edge hx e he hb
    simp at this
    omega
  intro fuel
  induction fuel with
  | zero =>
    intro listed a w hs hc hdc hC h
    rw [eq_allT hc, hs, Nat.zero_add]
    exact hQ a w hC h.2
  | succ fuel ih =>
    intro listed a w hs hc hdc hC h
    have hsF : (listed ++ noneT l2.length).size = (l1 ++ l2).toArray.size := by simp [hs, noneT]
    -- an operation of the first part is still to come
    have hout : ∃ i, i < l1.length ∧ lst listed i = false ∧ ∀ k, k < i → lst listed k = true := by
      rcases least_out (lst listed) l1.length with hall | h
      · exfalso
        have h0 : listed.toList.countP (fun b => !b) = 0 := by
          rw [List.countP_eq_zero]
          intro b hb
          obtain ⟨k, hk, rfl⟩ := List.getElem_of_mem hb
          have hk' : k < listed.size := by simpa using hk
          have := hall k (by omega)
          unfold lst at this
          simp [Array.getD_eq_getD_getElem?, hk'] at this
          simpa using this
        omega
      · exact h
    have hdcF : ∀ (i : Nat) o, (l1 ++ l2)[i]? = some o → lst (listed ++ noneT l2.length) i = true → ∀ e ∈ o.after.toList, Region.binds .any e = true → lst (listed ++ noneT l2.length) e.on = true := by
      intro i o ho hl e he hb
      rw [lst_app] at hl
      split at hl
      · rename_i hi
        have hon := hback i o ho e he hb
        rw [lst_app, if_pos (by omega)]
        exact hdc i o (by rw [← ho, List.getElem?_append_left (by omega)]) hl e he hb
      · rw [lst_none] at hl; cases hl
    rw [show fuel + 1 + l2.length = (fuel + l2.length) + 1 by omega]
    unfold wpAny
    constructor
    · intro hr
      exfalso
      obtain ⟨i, hi, h1, h2⟩ := hout
      have hin : i ∈ Region.ready .any (l1 ++ l2).toArray (listed ++ noneT l2.length) := by
        rw [mem_ready hsF]
        have hiF : i < (l1 ++ l2).length := by simp; omega
        refine ⟨(l1 ++ l2)[i], by simp, by rw [lst_app, if_pos (by omega)]; exact h1, fun e he hb => ?_⟩
        have := hback i _ (List.getElem?_eq_getElem hiF) e he hb
        rw [lst_app, if_pos (by omega)]
        exact h2 _ this
      rw [hr] at hin; cases hin
    · intro i hi
      rw [mem_ready hsF] at hi
      obtain ⟨o, ho, h1, h2⟩ := hi
      have ho' : (l1 ++ l2)[i]? = some o := by simpa using ho
      by_cases him : i < l1.length
      · have hol : l1[i]? = some o := by rw [← ho', List.getElem?_append_left him]
        have h1' : lst listed i = false := by rw [lst_app, if_pos (by omega)] at h1; exact h1
        have h2' : ∀ e ∈ o.after.toList, Region.binds .any e = true → lst listed e.on = true := fun e he hb => by
          have := hback i o ho' e he hb
          have := h2 e he hb
          rw [lst_app, if_pos (by omega)] at this
          exact this
        have hr' : i ∈ Region.ready .any l1.toArray listed := by
          rw [mem_ready (by simpa using hs)]
          exact ⟨o, by simpa using hol, h1', h2'⟩
        have hq := h.2 i hr'
        have hset : (listed ++ noneT l2.length).setIfInBounds i true = listed.setIfInBounds i true ++ noneT l2.length := by
          rw [Array.setIfInBounds_append]
          rw [if_pos (by omega)]
        rw [hset]
        have hgd := noGuards_get l1 hg i o hol
        have hw : ∀ y, Region.wanted o y = true := fun y => by simp [Region.wanted, hgd]
        unfold wpOp
        rw [ho]
        simp only [hw, if_true]
        unfold qOp at hq
        rw [show l1.toArray[i]? = some o by simpa using hol] at hq
        simp only [hw, if_true] at hq
        refine .inl (Oper.wp_of_quiet hC (fun a' w' hw' hK => ih _ a' w' (by simp [hs]) ?_ ?_ hw' hK) hq)
        · have hl : listed.toList[i]'(by simp; omega) = false := by
            unfold lst at h1'
            simp [Array.getD_eq_getD_getElem?, show i < listed.size by omega] at h1'
            simpa using h1'
          rw [Array.toList_setIfInBounds, List.countP_set (by simp; omega), hl, hc]
          simp
        · intro j o' hj hlj e he hb
          rw [lst_set (by omega)] at hlj ⊢
          by_cases hji : j = i
          · subst hji
            rw [hol] at hj; cases hj
            split
            · rfl
            · exact h2' e he hb
          · rw [if_neg hji] at hlj
            split
            · rfl
            · exact hdc j o' hj hlj e he hb
      · exfalso
        obtain ⟨k, hk, hk1, _⟩ := hout
        obtain ⟨x, hx, _⟩ := g3 i o ho'
        simp only [List.length_nil, Nat.zero_add] at hx
        have hcx := coversB_get _ hcov (i - l1.length) x (by rw [List.getElem?_drop, show l1.length + (i - l1.length) = i by omega]; exact hx)
        have := (anc_closed hanc hdcF (i + 1) i o x (by omega) ho' hx h2 k (coverB_get _ hcx k hk)).1
        rw [lst_app, if_pos (by omega), hk1] at this
        cases this

/-- What waits for all: one behind the other. -/
theorem any_list {P : Program} {ops : List Oper} {Q : Exit → Act → World → Prop} (hseq : ∀ (i : Nat) o, ops[i]? = some o → ∀ e ∈ o.after.toList, Region.binds .any e = true → e.on < i) :
    ∀ (rest : List Oper) (k : Nat) (a : Act) (w : World), ops.drop k = rest → k + rest.length = ops.length →
      (∀ (i : Nat) o, k < i → ops[i]? = some o → ∃ e ∈ o.after.toList, Region.binds .any e = true ∧ e.on = i - 1) →
      wpList P ops.toArray Q rest a w → wpAny P .any ops.toArray Q rest.length (allT k ++ noneT rest.length) a w
  | [], k, a, w, hd, hk, hs, h => by
    refine ⟨?_, h⟩
    rw [List.eq_nil_iff_forall_not_mem]
    intro i hi
    have hsz : (allT k ++ noneT ([] : List Oper).length).size = ops.toArray.size := by simp [allT, noneT] at hk ⊢; omega
    rw [mem_ready hsz] at hi
    obtain ⟨o, ho, h1, _⟩ := hi
    have hil := (Array.getElem?_eq_some_iff.1 ho).1
    rw [lst_app] at h1
    simp at hk hil
    rw [if_pos (by simp [allT]; omega)] at h1
    unfold lst allT at h1
    simp [Array.getD_eq_getD_getElem?, show i < k by omega] at h1
  | o :: rest, k, a, w, hd, hk, hs, h => by
    have hkl : k < ops.length := by simp at hk; omega
    have hok : ops[k]? = some o := by
      have := congrArg (fun l => l[0]?) hd
      simp only [List.getElem?_drop, Nat.add_zero] at this
      simpa using this
    have hsz : (allT k ++ noneT (o :: rest).length).size = ops.toArray.size := by simp [allT, noneT] at hk ⊢; omega
    have hT : ∀ i, lst (allT k ++ noneT (o :: rest).length) i = decide (i < k) := by
      intro i
      rw [lst_app]
      by_cases hi : i < k
      · rw [if_pos (by simp [allT]; omega)]
        unfold lst allT
        simp [Array.getD_eq_getD_getElem?, hi]
      · rw [if_neg (by simp [allT]; omega), lst_none]; simp [hi]
    have hready : ∀ i, i ∈ Region.ready .any ops.toArray (allT k ++ noneT (o :: rest).length) ↔ i = k := by
      intro i
      rw [mem_ready hsz]
      constructor
      · rintro ⟨o', ho', h1, h2⟩
        rw [hT] at h1
        have hik : ¬ i < k := by simpa using h1
        rcases Nat.lt_or_ge k i with hlt | hge
        · obtain ⟨e, he, hb, hon⟩ := hs i o' hlt (by simpa using ho')
          have := h2 e he hb
          rw [hT, hon] at this
          have : i - 1 < k := by simpa using this
          omega
        · omega
      · rintro rfl
        refine ⟨o, by simpa using hok, by rw [hT]; simp, fun e he hb => ?_⟩
        rw [hT]
        simpa using hseq i o hok e he hb
    have hset : (allT k ++ noneT (o :: rest).length).setIfInBounds k true = allT (k + 1) ++ noneT rest.length := by
      apply Array.ext_getElem?
      intro i
      rw [Array.getElem?_setIfInBounds]
      simp only [allT, noneT, Array.getElem?_append, Array.getElem?_replicate, Array.size_append, Array.size_replicate, List.length_cons]
      by_cases e : k = i
      · subst e; simp
      · rw [if_neg e]
        by_cases hi : i < k
        · simp [hi, show i < k + 1 by omega]
        · rw [if_neg hi, if_neg (show ¬ i < k + 1 by omega)]
          by_cases hj : i - (k + 1) < rest.length
          · rw [if_pos hj, if_pos (by omega)]
          · rw [if_neg hj, if_neg (by omega)]
    have ih := fun a w => any_list (P := P) (Q := Q) hseq rest (k + 1) a w (by
        have : ops.drop (k + 1) = (ops.drop k).drop 1 := by rw [List.drop_drop]
        rw [this, hd]; rfl) (by rw [List.length_cons] at hk; omega) (fun i o' hi => hs i o' (by omega))
    refine ⟨fun hr => ?_, fun i hi => ?_⟩
    · have := (hready k).2 rfl
      rw [hr] at this; cases this
    · have := (hready i).1 hi
      subst this
      rw [hset]
      unfold wpOp
      rw [show ops.toArray[i]? = some o by simpa using hok]
      show if _ then _ else _
      have h' : (if Region.wanted o (yielded ops.toArray a.tmps) then o.wp P a w (wpList P ops.toArray Q rest) Q ∨ (o.asks P a w ∧ LetsOut Q) else wpList P ops.toArray Q rest (a.put o.dst undef) w) := h
      split at h'
      · rename_i hw
        rw [if_pos hw]
        exact h'.imp (Oper.wp_mono (fun a w q => ih a w q)) id
      · rename_i hw
        rw [if_neg hw]
        exact ih _ _ h'

/-- Each operation from one on waits for the one ahead of it. -/
def chainB : (k : Nat) → (m : Nat) → List Oper → Bool
  | _, _, [] => true
  | k, m, o :: r => (Nat.ble k m || o.after.toList.any (fun e => Region.binds .any e && Nat.beq e.on (k - 1))) && chainB (k + 1) m r
theorem chainB_get {m : Nat} : ∀ (l : List Oper) (k : Nat), chainB k m l = true → ∀ (i : Nat) o, l[i]? = some o → m < k + i → ∃ e ∈ o.after.toList, Region.binds .any e = true ∧ e.on = k + i - 1
  | [], _, _, i, o, h, _ => by simp at h
  | x :: r, k, hc, i, o, h, hm => by
    simp only [chainB, Bool.and_eq_true, Bool.or_eq_true] at hc
    cases i with
    | zero =>
      simp at h; subst h
      rcases hc.1 with h1 | h1
      · have := Nat.le_of_ble_eq_true h1; omega
      · simp only [List.any_eq_true, Bool.and_eq_true] at h1
        obtain ⟨e, he, hb, hon⟩ := h1
        exact ⟨e, he, hb, by rw [Nat.eq_of_beq_eq_true hon]; rfl⟩
    | succ i =>
      have := chainB_get r (k + 1) hc.2 i o (by simpa using h) (by omega)
      rw [show k + 1 + i - 1 = k + (i + 1) - 1 by omega] at this
      exact this

/-- All that is asked of the two parts. -/
def splitB (l1 l2 : List Oper) : Bool := match ancAll [] (l1 ++ l2) with
  | some ancs => coversB l1.length (ancs.drop l1.length) && (noGuards l1 && (chainB 0 l1.length (l1 ++ l2) && Region.lexB .any l1.toArray))
  | none => false
/-- The region: its first m operations in whatever order, then the others one behind the other. -/
theorem region_split {P : Program} {l1 l2 : List Oper} {id : Nat} {C : World → Prop} {Q : Exit → Act → World → Prop} {a : Act} {w : World} (hm : P.follows .mixedOrders = true) (hsp : splitB l1 l2 = true) (hC : C { w with drawn := w.drawn + 1 })
    (h : wpQuiet P l1.toArray C (fun a' => ∀ w', C w' → wpList P (l1 ++ l2).toArray Q l2 a' w') l1 a) : (Code.region id (l1 ++ l2).toArray true).wp P Q a w := by
  unfold splitB at hsp
  split at hsp
  case h_2 => cases hsp
  rename_i ancs hanc
  simp only [Bool.and_eq_true] at hsp
  obtain ⟨hcov, hg, hch, hB⟩ := hsp
  obtain ⟨g1, g2, g3⟩ := ancAll_spec (l1 ++ l2) [] ancs hanc
  have hback : ∀ (i : Nat) o, (l1 ++ l2)[i]? = some o → ∀ e ∈ o.after.toList, Region.binds .any e = true → e.on < i := by
    intro i o ho e he hb
    obtain ⟨x, _, hx⟩ := g3 i o ho
    have := ancOf_edge hx e he hb
    simp at this
    omega
  refine wp_region_any hm ?_
  simp only [Region.lexB, Bool.and_eq_true] at hB
  have hq := wpAnyQ_lex (C := C) (md := .any) (P := P) hB.1 l1 0 (Array.replicate l1.toArray.size false) a (by simp) (by simpa using hB.2) h
  have key := any_split (P := P) (C := C) (Q := Q) hanc hcov hg (Qa := fun a' => ∀ w', C w' → wpList P (l1 ++ l2).toArray Q l2 a' w')
    (fun a w hw hqa => any_list hback l2 l1.length a w (by simp) (by simp) (fun i o hi ho => by
      have := chainB_get _ 0 hch i o ho (by omega)
      simpa using this) (hqa w hw))
    l1.length (Array.replicate l1.length false) a { w with drawn := w.drawn + 1 } (by simp) (by simp [List.countP_replicate]) (fun i o _ hl => by
      have : lst (noneT l1.length) i = true := hl
      rw [lst_none] at this; cases this) hC (by simpa using hq)
  have e1 : (Array.replicate l1.length false ++ noneT l2.length) = Array.replicate (l1 ++ l2).toArray.size false := by
    apply Array.ext
    · simp [noneT]
    · intro i h1 h2; simp [noneT, Array.getElem_append]
  rw [e1] at key
  simpa using key
end Go.Ev

/-
  Contracts that were walked: what a call laid behind the heap, as a new name.
-/
set_option linter.unusedSimpArgs false
set_option linter.unusedVariables false
namespace Go.Ev

theorem HeapRep.new' {P : Program} {ρ : Ren} {heap : List (Nat × AO)} {w w' : World} (h : HeapRep P ρ heap w) {n : Nat} {o : AO} {l : Loc} (hf : ρ n = none) (hb : l.cap ≠ 0 → w.heap.size ≤ l.blk)
    (hs : ∀ k, k < w.heap.size → w'.heap[k]? = w.heap[k]?) (ho : ObjRep P (ρ.set n l) w' l o) : HeapRep P (ρ.set n l) ((n, o) :: heap) w' := by
  have hle := Ren.le_set (l := l) hf
  have old : ∀ m x, m ≠ n → get ((n, o) :: heap) m = some x → get heap m = some x := by
    intro m x hm hx
    have : Nat.beq n m = false := by rw [← Bool.not_eq_true, Nat.beq_eq]; exact fun e => hm e.symm
    simpa [get, this] using hx
  refine ⟨fun m x hm => ?_, fun m k x y l1 l2 hm hk hne hro h1 h2 c1 c2 => ?_⟩
  · by_cases hmn : m = n
    · subst hmn; simp [get] at hm; subst hm; exact ⟨l, Ren.set_same ρ m l, ho⟩
    · obtain ⟨l', hl', hx⟩ := h.1 m x (old m x hmn hm)
      exact ⟨l', hle _ _ hl', hx.keep hle (fun c => hs _ (hx.lt c))⟩
  · by_cases hmn : m = n
    · subst hmn
      rw [Ren.set_same] at h1; cases h1
      obtain ⟨l', hl', hx⟩ := h.1 k y (old k y (Ne.symm hne) hk)
      rw [hle _ _ hl'] at h2; cases h2
      have := hx.lt c2
      have := hb c1
      omega
    · obtain ⟨l1', hl1, hx1⟩ := h.1 m x (old m x hmn hm)
      rw [hle _ _ hl1] at h1; cases h1
      by_cases hkn : k = n
      · subst hkn
        rw [Ren.set_same] at h2; cases h2
        have := hx1.lt c1
        have := hb c2
        omega
      · obtain ⟨l2', hl2, hx2⟩ := h.1 k y (old k y hkn hk)
        rw [hle _ _ hl2] at h2; cases h2
        exact h.2 m k x y _ _ (old m x hmn hm) (old k y hkn hk) hne hro hl1 hl2 c1 c2

theorem step_below {P : Program} {ρ : Ren} {lh : List (Nat × AO)} {k : Nat} {w w' : World} (hr : HeapRep P ρ lh w) (hf : Fresh ρ (k + 1) (gnm 0)) (hk : k + 1 < gnm 0) (hB : Go.RowKit.Below w.heap.size w w') (l : Loc) (o : AO)
    (hb : l.cap ≠ 0 → w.heap.size ≤ l.blk) (ho : ObjRep P (ρ.set (k + 1) l) w' l o) :
    Step P ρ ⟨lh, k + 1, gnm 0, [], [], [], false⟩ w (ρ.set (k + 1) l) ⟨(k + 1, o) :: lh, k + 1 + 1, gnm 0, [], [], [], false⟩ w' := by
  have hn : ρ (k + 1) = none := hf _ (Nat.le_refl _) hk
  refine ⟨Ren.le_set hn, ?_, HeapRep.new' hr hn hb (fun k hk => hB.block k hk) ho, ⟨hB.size, fun b hb _ => hB.block b hb, hB.tape, hB.os, hB.output⟩, ?_⟩
  · intro m l' e1 e2
    by_cases hm : m = k + 1
    · subst hm; exact ⟨Nat.le_refl _, by simp⟩
    · simp [Ren.set, hm, e1] at e2
  · intro m o' l' h1 h2 h3 h4
    by_cases hm : m = k + 1
    · subst hm; rw [Ren.set_same] at h2; cases h2
      have := hb h3
      omega
    · have h1' : get lh m = some o' := by
        have : Nat.beq (k + 1) m = false := by rw [← Bool.not_eq_true, Nat.beq_eq]; exact fun e => hm e.symm
        simpa [get, this] using h1
      obtain ⟨l0, hl0⟩ := hr.loc h1'
      rw [Ren.le_set hn m l0 hl0] at h2; cases h2
      exact ⟨m, o', _, h1', rfl, hl0, h3, rfl, .inl rfl⟩

/-- A cell of a symbolic array, read in the world. -/
theorem arr_cell {P : Program} {ρ : Ren} {w : World} {l : Loc} {wd : Nat} {sh : List CK} {ro : Bool} {len : Nat} {f : Nat → Nat → AV} (h : ObjRep P ρ w l (.arr wd sh ro len f)) {i j : Nat} {k : IntKind} (hi : i < len) (hj : sh[j]? = some (.int k)) :
    w.cell? ⟨l.blk, l.base + i * wd + j, none⟩ = some (.int k (avInt (f i j))) := by
  obtain ⟨h1, h2, h3, h4, h5⟩ := h
  obtain ⟨c, t, fr, hb, hf, hc2, hv⟩ := h5 (by omega)
  obtain ⟨hk, x, hx, hd⟩ := hv i hi j _ hj
  obtain ⟨n, e | e⟩ := hk <;> rw [e] at hd ⊢ <;> simp [den] at hd <;> subst hd <;> simp [World.cell?, hb, hx, avInt]
end Go.Ev
