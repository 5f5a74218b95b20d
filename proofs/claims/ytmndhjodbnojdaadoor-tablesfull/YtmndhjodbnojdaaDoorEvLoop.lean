/-
  EvLoop and what follows it.
-/
import Derived.Test.YtmndhjodbnojdaaDoorEvLoc2
import Derived.Test.YtmndhjodbnojdaaDoorEvRen
import Derived.Test.YtmndhjodbnojdaaDoorEvDraw
import Derived.ProofKit
import Derived.ChangeSlices
import Derived.Carry
import Derived.WideShapes
import Derived.ChangeCalls
/-
  A loop by an invariant: a family of templates.
-/
set_option linter.unusedSimpArgs false
set_option linter.unusedVariables false
namespace Go.Ev

/-- One round of a loop from a template, as it is shown by an evaluation. -/
def RoundOk (E : Env) (c : Code) (s0 : St) (e0 : Ex) (s1 : St) {I : Type} (T : I → St) (μ : I → Nat) (ok : I → Prop) (i : I) : Prop :=
  ∃ fuel hints e s', exec E fuel c ⟨(T i).tmps, ⟨(T i).hp.heap, (T i).hp.nxt, (T i).hp.hi, hints, [], (T i).hp.wr, false⟩⟩ = some (e, s') ∧ Obs s'.hp ∧
    ((e = .norm ∧ ∃ j m ob, ok j ∧ μ j < μ i ∧ castSt s0.hp m s' (T j) = some ob ∧ ∀ p ∈ ob, p) ∨ (e = e0 ∧ e ≠ .norm ∧ ∃ m ob, castSt s0.hp m s' s1 = some ob ∧ ∀ p ∈ ob, p))

theorem Step.of_eq {P : Program} {ρ ρ' : Ren} {h1 h2 k1 k2 : Hp} {w w' : World} (s : Step P ρ h1 w ρ' k1 w') (e1 : h1.heap = h2.heap) (e2 : h1.nxt = h2.nxt) (e3 : k1.heap = k2.heap) (e4 : k1.nxt = k2.nxt) (e5 : k1.wr = k2.wr) : Step P ρ h2 w ρ' k2 w' := by
  obtain ⟨a, b, c, d, e⟩ := s
  rw [e2, e4] at b
  rw [e3] at c
  rw [e1, e5] at d
  rw [e1, e3, e5] at e
  exact ⟨a, b, c, d, e⟩

theorem loop_rule {E : Env} (hE : EnvOk E) {c : Code} {s0 : St} {e0 : Ex} {s1 : St} {I : Type} (T : I → St) (μ : I → Nat) (ok : I → Prop)
    (init : ∃ i m ob, ok i ∧ castSt s0.hp m s0 (T i) = some ob ∧ ∀ p ∈ ob, p) (round : ∀ i, ok i → RoundOk E c s0 e0 s1 T μ ok i) : LoopHolds E.P c s0 e0 s1 := by
  intro ρ a w Q pre post
  have key : ∀ n i, μ i < n → ok i → ∀ ρ' a' w', RelL ρ' (T i).tmps a'.tmps.toList → a'.defers = [] → Step E.P ρ s0.hp w ρ' (T i).hp w' → Fresh ρ' (T i).hp.nxt (T i).hp.hi → s0.hp.nxt ≤ (T i).hp.nxt →
      (T i).hp.hi = s0.hp.hi → (∀ n ∈ s0.hp.wr, n ∈ (T i).hp.wr) → Code.rounds E.P c Q n a' w' := by
    intro n
    induction n with
    | zero => intro i h; omega
    | succ n IH =>
      intro i hi hok ρ' a' w' hrel hdef hst hfr hnx hhi hwr
      obtain ⟨fuel, hints, e, s', hex, hobs, hend⟩ := round i hok
      have o := (all_ok hE fuel).ex _ _ _ _ hex
      rw [rounds_succ]
      refine o.wp hobs ρ' a' w' _ ⟨hrel, hdef, hst.rep, hfr, pre.glob.mono hst.le⟩ (fun ρ2 a2 w2 hr2 hd2 hs2 => ?_)
      have m1 : Mono (⟨s0.hp.heap, s0.hp.nxt, s0.hp.hi, [], [], s0.hp.wr, false⟩ : Hp) ⟨(T i).hp.heap, (T i).hp.nxt, (T i).hp.hi, hints, [], (T i).hp.wr, false⟩ := ⟨fun p hp => hp, hnx, hhi, hwr⟩
      have all : Step E.P ρ s0.hp w ρ2 s'.hp w2 :=
        ((hst.of_eq (h2 := ⟨s0.hp.heap, s0.hp.nxt, s0.hp.hi, [], [], s0.hp.wr, false⟩) (k2 := ⟨(T i).hp.heap, (T i).hp.nxt, (T i).hp.hi, hints, [], (T i).hp.wr, false⟩) rfl rfl rfl rfl rfl).trans hs2 m1 o.mono).of_eq rfl rfl rfl rfl rfl
      rcases hend with ⟨rfl, j, m, ob, hj, hμ, hc, ho⟩ | ⟨rfl, hne, m, ob, hc, ho⟩
      · obtain ⟨ρ3, q1, q2, q3, q4, q5, q6⟩ := castSt_ok all pre.fresh pre.rep hc ho hr2
        exact exOf_then (fun _ => IH j (by omega) hj ρ3 a2 w2 q1 hd2 q2 q3 q4 q5 q6) (fun h => (h rfl).elim)
      · obtain ⟨ρ3, q1, q2, q3, q4, q5, q6⟩ := castSt_ok all pre.fresh pre.rep hc ho hr2
        exact exOf_then (fun h => (hne h).elim) (fun _ => post ρ3 a2 w2 q1 hd2 q2)
  obtain ⟨i, m, ob, hok, hc, ho⟩ := init
  obtain ⟨ρ3, q1, q2, q3, q4, q5, q6⟩ := castSt_ok (Step.refl pre.rep rfl) pre.fresh pre.rep hc ho pre.rel
  exact wp_loop_rounds (μ i + 1) (key (μ i + 1) i (by omega) hok ρ3 a w q1 pre.defers q2 q3 q4 q5 q6)

end Go.Ev

/-
  Contracts over a local heap with names of their own: one contract of a function serves at every call.
-/
set_option linter.unusedSimpArgs false
set_option linter.unusedVariables false
namespace Go.Ev

/-! ### local names -/
/-- What a contract says over a local heap of k blocks: the answer, the heap behind it, how many new blocks, which were written. -/
structure LR where
  k : Nat
  v : AV
  heap : List (Nat × AO)
  n : Nat
  wr : List Nat
  ob : List Prop

def applyLocN (spec : List AV → List (Nat × AO) → Option LR) (args : List AV) (h : Hp) (names : List Nat) : Option (AV × Hp) :=
  match revN (reach h.heap 10000 names []) [] with
  | r0 => match notGlob r0 with
    | r => match renL (toLoc r) args, locHeap (toLoc r) h.heap r0, Nat.ble h.hi (gnm 0), nodupB r with
      | some la, some lh, true, true => match spec la lh with
        | some R => match Nat.beq R.k r.length && Nat.ble (r.length + 1 + R.n) (gnm 0), Nat.ble (h.nxt + R.n) h.hi, outHeap (toOut r h.nxt R.n) R.heap h.heap (r.length + R.n), outNames (toOut r h.nxt R.n) R.wr, renV (toOut r h.nxt R.n) R.v with
          | true, true, some hp, some wr, some v => some (v, ⟨hp, h.nxt + R.n, h.hi, h.hints, R.ob ++ h.ob, addAll wr h.wr, h.auto⟩)
          | _, _, _, _, _ => none
        | none => none
      | _, _, _, _ => none

/-- A contract of what the arguments reach; where it does not fit, of that and of the package-level variables that are known. -/
def applyLoc (spec : List AV → List (Nat × AO) → Option LR) (args : List AV) (h : Hp) : Option (AV × Hp) := match applyLocN spec args h (namesL args) with
  | some x => some x
  | none => match addGlobs h.heap [] with
    | [] => none
    | _ => applyLocN spec args h (addGlobs h.heap (namesL args))

def LocOk (P : Program) (f : FuncId) (la : List AV) (lh : List (Nat × AO)) (R : LR) : Prop :=
  ∀ ρ w, (∀ p ∈ R.ob, p) → HeapRep P ρ lh w → Fresh ρ (R.k + 1) (gnm 0) → GOk ρ → ∀ xs, denL ρ la = some xs →
    Calls P f xs.toArray w fun e w' => ∃ x ρ', e = .returned x ∧ relS ρ' R.v x ∧ Step P ρ ⟨lh, R.k + 1, gnm 0, [], [], [], false⟩ w ρ' ⟨R.heap, R.k + 1 + R.n, gnm 0, [], [], R.wr, false⟩ w'

theorem applyLocN_ok {P : Program} {f : FuncId} {spec : List AV → List (Nat × AO) → Option LR} (H : ∀ la lh R, spec la lh = some R → LocOk P f la lh R) {args : List AV} {h h' : Hp} {v : AV} {names : List Nat} (e : applyLocN spec args h names = some (v, h')) : CaOk P f args h v h' := by
  unfold applyLocN at e
  generalize hr0 : revN (reach h.heap 10000 names []) [] = r0 at e
  simp only at e
  generalize hrr : notGlob r0 = r at e
  split at e
  case h_2 => cases e
  rename_i la lh hla hlh hhi hnd
  split at e
  case h_2 => cases e
  rename_i R hR
  split at e
  case h_2 => cases e
  rename_i hp wr vo hk hnx hout hwr hvo
  cases e
  have hhi : h.hi ≤ gnm 0 := Nat.le_of_ble_eq_true hhi
  have hnd := nodupB_nd r hnd
  simp only [Bool.and_eq_true] at hk
  have hk1 := Nat.eq_of_beq_eq_true hk.1
  have hk2 : r.length + 1 + R.n ≤ gnm 0 := Nat.le_of_ble_eq_true hk.2
  have hnx : h.nxt + R.n ≤ h.hi := Nat.le_of_ble_eq_true hnx
  refine ⟨⟨fun p hp => List.mem_append_right _ hp, by simp, rfl, fun n hn => mem_addAll.2 (.inr hn)⟩, fun ho ρ w hr hf hg xs hx => ?_⟩
  let ρl : Ren := fun l => if gnm 0 ≤ l then ρ l else match l with
    | 0 => none
    | m + 1 => match r[m]? with
      | some b => ρ b
      | none => none
  have hρg : ∀ l, gnm 0 ≤ l → ρl l = ρ l := fun l hl => by simp [ρl, hl]
  have hρi : ∀ m b, m + 1 < gnm 0 → r[m]? = some b → ρl (m + 1) = ρ b := fun m b hm hb => by
    have : ¬ gnm 0 ≤ m + 1 := by omega
    simp [ρl, this, hb]
  have hrl : ∀ m b, r[m]? = some b → m < r.length := fun m b hb => (List.getElem?_eq_some_iff.1 hb).1
  have H1 : ∀ n k, toLoc r n = some k → ρl k = ρ n := by
    intro n k hn
    rcases toLoc_spec hn with ⟨a, rfl⟩ | ⟨a, b, c⟩
    · exact hρg _ a
    · have := hrl _ _ c
      have := hρi (k - 1) n (by omega) c
      rw [← this]; congr 1; omega
  obtain ⟨g1, g2⟩ := locHeap_get r0 lh hlh
  have hrep : HeapRep P ρl lh w := by
    refine ⟨fun k o' hk => ?_, fun k k2 o o2 l l2 ha hb hne hro hl hl2 hc hc2 => ?_⟩
    · obtain ⟨b, hb, o, q1, q2, q3⟩ := g2 k o' hk
      obtain ⟨l, hl, hob⟩ := hr.1 b o q2
      exact ⟨l, (H1 b k q1).trans hl, (renO_rep H1 q3 hob).1⟩
    · obtain ⟨b, hbm, p, q1, q2, q3⟩ := g2 k o ha
      obtain ⟨b', hbm', p', q1', q2', q3'⟩ := g2 k2 o2 hb
      obtain ⟨x1, hx1, hob1⟩ := hr.1 b p q2
      obtain ⟨x2, hx2, hob2⟩ := hr.1 b' p' q2'
      have e1 := (renO_rep H1 q3 hob1).2
      have e2 := (renO_rep H1 q3' hob2).2
      have hbb : b ≠ b' := fun x => by subst x; rw [q1] at q1'; cases q1'; exact hne rfl
      rw [H1 b k q1] at hl
      rw [H1 b' k2 q1'] at hl2
      exact hr.2 b b' p p' l l2 q2 q2' hbb (by rw [← e1, ← e2]; exact hro) hl hl2 hc hc2
  have hfr : Fresh ρl (R.k + 1) (gnm 0) := by
    intro n h1 h2
    have : ¬ gnm 0 ≤ n := by omega
    cases n with
    | zero => omega
    | succ m =>
      have hm : r[m]? = none := by simp; omega
      simp [ρl, this, hm]
  have hgl : GOk ρl := fun g => by
    obtain ⟨l, hl, q⟩ := hg g
    exact ⟨l, (hρg _ (by unfold gnm; omega)).trans hl, q⟩
  have := H la lh R hR ρl w (fun p hp => ho p (List.mem_append_left _ hp)) hrep hfr hgl xs ((renL_den H1 args la hla).trans hx)
  refine this.mono fun ee w' ⟨x, ρl', he, hxv, st⟩ => ?_
  let ρ' : Ren := fun m => if h.nxt ≤ m ∧ m < h.nxt + R.n then ρl' (r.length + 1 + (m - h.nxt)) else ρ m
  have hsome : ∀ b l, ρ b = some l → ¬ (h.nxt ≤ b ∧ b < h.nxt + R.n) := fun b l hb hn => by
    have := hf b hn.1 (by omega); rw [this] at hb; cases hb
  have hle : Le ρ ρ' := fun n l hn => by simp only [ρ']; rw [if_neg (hsome n l hn)]; exact hn
  have hin : ∀ b ∈ r, ∃ o l, get h.heap b = some o ∧ ρ b = some l := fun b hb => by
    rw [← hrr] at hb
    obtain ⟨k, o, o', _, q2, _⟩ := g1 b ((notGlob_mem r0 b).1 hb).1
    obtain ⟨l, hl⟩ := hr.loc q2
    exact ⟨o, l, q2, hl⟩
  have H2 : ∀ l b, toOut r h.nxt R.n l = some b → ρ' b = ρl' l := by
    intro l b hb
    rcases toOut_spec hb with ⟨a, rfl⟩ | ⟨a, m, rfl, hm | ⟨m1, m2, rfl⟩⟩
    · obtain ⟨L, hL, _⟩ := hg (b - gnm 0)
      have eb : gnm (b - gnm 0) = b := by unfold gnm at a ⊢; omega
      rw [eb] at hL
      rw [hle b L hL, st.le b L ((hρg b a).trans hL)]
    · obtain ⟨o, L, _, hL⟩ := hin b (List.mem_of_getElem? hm)
      rw [hle b L hL, st.le (m + 1) L ((hρi m b a hm).trans hL)]
    · simp only [ρ']
      rw [if_pos (by omega)]
      congr 1; omega
  have inj : ∀ i j b, i ≤ r.length + R.n → j ≤ r.length + R.n → 1 ≤ i → 1 ≤ j → toOut r h.nxt R.n i = some b → toOut r h.nxt R.n j = some b → i = j := by
    intro i j b hi hj hi1 hj1 e1 e2
    rcases toOut_spec e1 with ⟨a, _⟩ | ⟨_, m, rfl, hm⟩
    · omega
    rcases toOut_spec e2 with ⟨a, _⟩ | ⟨_, m', rfl, hm'⟩
    · omega
    rcases hm with hm | ⟨m1, m2, rfl⟩
    · rcases hm' with hm' | ⟨m1', m2', rfl⟩
      · obtain ⟨ha, ha'⟩ := List.getElem?_eq_some_iff.1 hm
        obtain ⟨hb, hb'⟩ := List.getElem?_eq_some_iff.1 hm'
        have := (List.getElem_inj hnd).1 (ha'.trans hb'.symm)
        omega
      · obtain ⟨o, L, _, hL⟩ := hin _ (List.mem_of_getElem? hm)
        exact (hsome _ L hL (by omega)).elim
    · rcases hm' with hm' | ⟨m1', m2', e3⟩
      · obtain ⟨o, L, _, hL⟩ := hin _ (List.mem_of_getElem? hm')
        exact (hsome _ L hL (by omega)).elim
      · omega
  obtain ⟨k1, k2⟩ := outHeap_get _ hp hout inj
  -- what a local name with an object stands for
  have loc : ∀ m o1, get lh m = some o1 → m < gnm 0 → ∃ b o2, toOut r h.nxt R.n m = some b ∧ 1 ≤ m ∧ m ≤ r.length ∧ get h.heap b = some o2 ∧ o1.ro = o2.ro ∧ ρl m = ρ b := by
    intro m o1 hm hlt
    obtain ⟨b, hb, o2, q1, q2, q3⟩ := g2 m o1 hm
    obtain ⟨L, hL, hob⟩ := hr.1 b o2 q2
    rcases toLoc_spec q1 with ⟨a, rfl⟩ | ⟨a, c, d⟩
    · omega
    · exact ⟨b, o2, toOut_old c hlt d, c, by have := hrl _ _ d; omega, q2, (renO_rep H1 q3 hob).2, H1 b m q1⟩
  have wrin : ∀ m ∈ R.wr, m < gnm 0 ∧ ∃ b, toOut r h.nxt R.n m = some b ∧ b ∈ wr := outNames_get _ _ hwr
  have stay : ∀ b o L, (∀ l, 1 ≤ l → l ≤ r.length + R.n → toOut r h.nxt R.n l ≠ some b) → get h.heap b = some o → ρ b = some L → L.cap ≠ 0 → w'.heap[L.blk]? = w.heap[L.blk]? := by
    intro b o L hb hgb hL hc
    obtain ⟨L', hL', hob⟩ := hr.1 b o hgb
    rw [hL] at hL'; cases hL'
    refine st.fr.same L.blk (hob.lt hc) ?_
    rintro ⟨m, hm, o1, L1, y1, y2, y3, y4, y5⟩
    obtain ⟨hlt, _⟩ := wrin m hm
    obtain ⟨b1, o2, z1, z2, z3, z4, z5, z6⟩ := loc m o1 y1 hlt
    have hne : b1 ≠ b := fun x => by subst x; exact hb m z2 (by omega) z1
    rw [z6] at y3
    exact hr.2 b1 b o2 o L1 L z4 hgb hne (by rw [← z5, y2]; rfl) y3 hL y4 hc y5
  have apart : ∀ l o' L1 b2 o2 L2, 1 ≤ l → l ≤ r.length + R.n → get R.heap l = some o' → ρl' l = some L1 → L1.cap ≠ 0 → (∀ l, 1 ≤ l → l ≤ r.length + R.n → toOut r h.nxt R.n l ≠ some b2) → get h.heap b2 = some o2 → ρ b2 = some L2 → L2.cap ≠ 0 →
      (o'.ro && o2.ro) = false → L1.blk ≠ L2.blk := by
    intro l o' L1 b2 o2 L2 hl1 hl2 hgl hL1 hc1 hb2 hg2 hL2 hc2 hro heq
    obtain ⟨L', hL', hob⟩ := hr.1 b2 o2 hg2
    rw [hL2] at hL'; cases hL'
    have hlt := hob.lt hc2
    obtain ⟨m, o3, L3, y1, y2, y3, y4, y5, y6⟩ := st.own l o' L1 hgl hL1 hc1 (by rw [heq]; exact hlt)
    have hm : m < gnm 0 := by
      rcases y6 with rfl | y6
      · omega
      · exact (wrin m y6).1
    obtain ⟨b1, o4, z1, z2, z3, z4, z5, z6⟩ := loc m o3 y1 hm
    have hne : b1 ≠ b2 := fun x => by subst x; exact hb2 m z2 (by omega) z1
    rw [z6] at y3
    exact hr.2 b1 b2 o4 o2 L3 L2 z4 hg2 hne (by rw [← z5, y2]; exact hro) y3 hL2 y4 hc2 (y5.trans heq)
  have kind : ∀ b o, get hp b = some o → (∃ l o' , 1 ≤ l ∧ l ≤ r.length + R.n ∧ toOut r h.nxt R.n l = some b ∧ get R.heap l = some o' ∧ renO (toOut r h.nxt R.n) o' = some o ∧ ∃ L, ρl' l = some L ∧ ObjRep P ρ' w' L o ∧ o.ro = o'.ro) ∨
      ((∀ l, 1 ≤ l → l ≤ r.length + R.n → toOut r h.nxt R.n l ≠ some b) ∧ get h.heap b = some o) := by
    intro b o hb
    by_cases hex : ∃ l, 1 ≤ l ∧ l ≤ r.length + R.n ∧ toOut r h.nxt R.n l = some b
    · obtain ⟨l, h1, h2, h3⟩ := hex
      obtain ⟨c, hc, q⟩ := k1 l h1 h2
      rw [h3] at hc; cases hc
      obtain ⟨o', q1, q2⟩ := q o hb
      obtain ⟨L, hL, hob⟩ := st.rep.1 l o' q1
      obtain ⟨z1, z2⟩ := renO_rep H2 q2 hob
      exact .inl ⟨l, o', h1, h2, h3, q1, q2, L, hL, z1, z2⟩
    · have hno : ∀ l, 1 ≤ l → l ≤ r.length + R.n → toOut r h.nxt R.n l ≠ some b := fun l h1 h2 h3 => hex ⟨l, h1, h2, h3⟩
      exact .inr ⟨hno, (k2 b hno) ▸ hb⟩
  refine ⟨x, ρ', he, renV_rel H2 hvo hxv, hle, fun n l h1 h2 => ?_, ⟨fun b o hb => ?_, fun b c o1 o2 L1 L2 hb hc hne hro hL1 hL2 hc1 hc2 => ?_⟩, ⟨st.fr.size, fun b hb hn => st.fr.same b hb ?_, st.fr.tape, st.fr.os, st.fr.output⟩, fun b o L hb hL hc hlt => ?_⟩
  · simp only [ρ'] at h2
    split at h2
    · rename_i hh; exact hh
    · rw [h1] at h2; cases h2
  · rcases kind b o hb with ⟨l, o', a1, a2, a3, a4, a5, L, a6, a7, _⟩ | ⟨a1, a2⟩
    · exact ⟨L, (H2 l b a3).trans a6, a7⟩
    · obtain ⟨L, hL, hob⟩ := hr.1 b o a2
      exact ⟨L, hle b L hL, hob.keep hle (fun hc => stay b o L a1 a2 hL hc)⟩
  · rcases kind b o1 hb with ⟨l, o', a1, a2, a3, a4, a5, L, a6, a7, a8⟩ | ⟨a1, a2⟩
    · rw [H2 l b a3, a6] at hL1; cases hL1
      rcases kind c o2 hc with ⟨l', o'', b1, b2, b3, b4, b5, L', b6, b7, b8⟩ | ⟨b1, b2⟩
      · rw [H2 l' c b3, b6] at hL2; cases hL2
        have hll : l ≠ l' := fun x => by subst x; rw [a3] at b3; cases b3; exact hne rfl
        exact st.rep.2 l l' o' o'' _ _ a4 b4 hll (by rw [← a8, ← b8]; exact hro) a6 b6 hc1 hc2
      · obtain ⟨L', hL', _⟩ := hr.1 c o2 b2
        rw [hle c L' hL'] at hL2; cases hL2
        exact apart l o' _ c o2 _ a1 a2 a4 a6 hc1 b1 b2 hL' hc2 (by rw [← a8]; exact hro)
    · obtain ⟨L, hL, _⟩ := hr.1 b o1 a2
      rw [hle b L hL] at hL1; cases hL1
      rcases kind c o2 hc with ⟨l', o'', b1, b2, b3, b4, b5, L', b6, b7, b8⟩ | ⟨b1, b2⟩
      · rw [H2 l' c b3, b6] at hL2; cases hL2
        exact (apart l' o'' _ b o1 _ b1 b2 b4 b6 hc2 a1 a2 hL hc1 (by rw [← b8, Bool.and_comm]; exact hro)).symm
      · obtain ⟨L', hL', _⟩ := hr.1 c o2 b2
        rw [hle c L' hL'] at hL2; cases hL2
        exact hr.2 b c o1 o2 _ _ a2 b2 hne hro hL hL' hc1 hc2
  · rintro ⟨m, hm, o1, L1, y1, y2, y3, y4, y5⟩
    obtain ⟨hlt, c, hc, hcw⟩ := wrin m hm
    obtain ⟨b1, o2, z1, z2, z3, z4, z5, z6⟩ := loc m o1 y1 hlt
    rw [hc] at z1; cases z1
    rw [z6] at y3
    exact hn ⟨c, mem_addAll.2 (.inl hcw), o2, L1, z4, z5.symm.trans y2, y3, y4, y5⟩
  · rcases kind b o hb with ⟨l, o', a1, a2, a3, a4, a5, L', a6, a7, a8⟩ | ⟨a1, a2⟩
    · rw [H2 l b a3, a6] at hL; cases hL
      obtain ⟨m, o3, L3, y1, y2, y3, y4, y5, y6⟩ := st.own l o' _ a4 a6 hc hlt
      have hm : m < gnm 0 := by
        rcases y6 with rfl | y6
        · omega
        · exact (wrin m y6).1
      obtain ⟨b1, o4, z1, z2, z3, z4, z5, z6⟩ := loc m o3 y1 hm
      rw [z6] at y3
      refine ⟨b1, o4, L3, z4, (z5.symm.trans y2).trans a8.symm, y3, y4, y5, ?_⟩
      rcases y6 with rfl | y6
      · rw [a3] at z1; cases z1; exact .inl rfl
      · obtain ⟨_, c, hc', hcw⟩ := wrin m y6
        rw [hc'] at z1; cases z1
        exact .inr (mem_addAll.2 (.inl hcw))
    · obtain ⟨L', hL', _⟩ := hr.1 b o a2
      rw [hle b L' hL'] at hL; cases hL
      exact ⟨b, o, _, a2, rfl, hL', hc, rfl, .inl rfl⟩

theorem applyLoc_ok {P : Program} {f : FuncId} {spec : List AV → List (Nat × AO) → Option LR} (H : ∀ la lh R, spec la lh = some R → LocOk P f la lh R) {args : List AV} {h h' : Hp} {v : AV} (e : applyLoc spec args h = some (v, h')) : CaOk P f args h v h' := by
  unfold applyLoc at e
  split at e
  · rename_i x hx
    cases e
    exact applyLocN_ok H hx
  · split at e
    · cases e
    · exact applyLocN_ok H e
end Go.Ev

/-
  From a row's start to the evaluator's, and back to what a row asks behind the call.
-/
set_option linter.unusedSimpArgs false
set_option linter.unusedVariables false
namespace Go.Ev

/-! ### a type's leaves -/
def leavesFs (P : Program) (rec : TypeId → Option (List TypeId)) : Nat → List Field → Option (List TypeId)
  | _, [] => some []
  | off, f :: r => match Nat.beq f.offset off, rec f.type with
    | true, some l => match Nat.beq (P.cellsOf f.type) l.length, leavesFs P rec (off + l.length) r with
      | true, some m => some (l ++ m)
      | _, _ => none
    | _, _ => none

def repL {α : Type} : Nat → List α → List α
  | 0, _ => []
  | n + 1, l => l ++ repL n l
theorem repL_length {α : Type} : ∀ (n : Nat) (l : List α), (repL n l).length = n * l.length
  | 0, l => by simp [repL]
  | n + 1, l => by simp [repL, repL_length n l, Nat.add_mul, Nat.add_comm]
theorem repL_get {α : Type} : ∀ (n : Nat) (l : List α) (j : Nat) (u : α), (repL n l)[j]? = some u → ∃ i k, i < n ∧ j = i * l.length + k ∧ l[k]? = some u
  | 0, l, j, u, h => by simp [repL] at h
  | n + 1, l, j, u, h => by
    simp only [repL] at h
    by_cases hj : j < l.length
    · rw [List.getElem?_append_left hj] at h
      exact ⟨0, j, by omega, by omega, h⟩
    · rw [List.getElem?_append_right (by omega)] at h
      obtain ⟨i, k, h1, h2, h3⟩ := repL_get n l _ u h
      exact ⟨i + 1, k, by omega, by rw [Nat.add_mul]; omega, h3⟩

def leaves (P : Program) : Nat → TypeId → Option (List TypeId)
  | 0, _ => none
  | n + 1, t => match P.underlying t with
    | some (.struct fs) => match leavesFs P (leaves P n) 0 fs.toList with
      | some l => match Nat.beq (P.cellsOf t) l.length with
        | true => some l
        | false => none
      | none => none
    | some .bool => some [t]
    | some (.int _) => some [t]
    | some (.slice _) => some [t]
    | some (.array c e) => match leaves P n e with
      | some l => match Nat.beq (P.cellsOf e) l.length, Nat.beq (P.cellsOf t) (c * l.length) with
        | true, true => some (repL c l)
        | _, _ => none
      | none => none
    | _ => none

section
variable {H : Type} {enc : TypeId × Value → H} {P : Program} {w : World} {base : Nat} {spare : Nat → Bool} {held : Bool}

theorem leavesFs_trod {rec : TypeId → Option (List TypeId)} {cs : List Value}
    (hrec : ∀ t l, rec t = some l → ∀ fuel cs x, DataW.trod enc P w base spare held fuel t cs = some x → cs.length = l.length ∧ ∀ (j : Nat) u, l[j]? = some u → ∃ v m y, cs[j]? = some v ∧ DataW.trod enc P w base spare held m u [v] = some y) :
    ∀ (fs : List Field) (off : Nat) (l : List TypeId), leavesFs P rec off fs = some l →
      (∀ f ∈ fs, ∃ m y, DataW.trod enc P w base spare held m f.type ((cs.drop f.offset).take (P.cellsOf f.type)) = some y) →
      ∀ (j : Nat) u, l[j]? = some u → ∃ v m y, cs[off + j]? = some v ∧ DataW.trod enc P w base spare held m u [v] = some y
  | [], off, l, h, _, j, u, hj => by simp [leavesFs] at h; subst h; simp at hj
  | f :: r, off, l, h, ht, j, u, hj => by
    simp only [leavesFs] at h
    split at h
    · rename_i l1 hoff hl1
      have hoff := Nat.eq_of_beq_eq_true hoff
      split at h
      · rename_i m hc hm
        have hc := Nat.eq_of_beq_eq_true hc
        cases h
        by_cases hlt : j < l1.length
        · obtain ⟨mm, y, hy⟩ := ht f (by simp)
          obtain ⟨q1, q2⟩ := hrec _ _ hl1 _ _ _ hy
          rw [List.getElem?_append_left hlt] at hj
          obtain ⟨v, m', y', h1, h2⟩ := q2 j u hj
          refine ⟨v, m', y', ?_, h2⟩
          rw [List.getElem?_take, if_pos (by omega), List.getElem?_drop, hoff] at h1
          exact h1
        · rw [List.getElem?_append_right (by omega)] at hj
          obtain ⟨v, m', y', h1, h2⟩ := leavesFs_trod hrec r _ m hm (fun g hg => ht g (by simp [hg])) _ u hj
          refine ⟨v, m', y', ?_, h2⟩
          rw [← h1]; congr 1; omega
      · cases h
    · cases h

theorem arr_trod {t : TypeId} {fuel : Nat} {cs : List Value} {x : DataW H × List MemPlace} {n : Nat} {e : TypeId} (ht : P.underlying t = some (.array n e)) (h : DataW.trod enc P w base spare held fuel t cs = some x) :
    ∃ (xs : List (DataW H × List MemPlace)) (m : Nat), fuel = m + 1 ∧ x = (.agg (xs.map (·.1)), xs.flatMap (·.2)) ∧ cs.length = P.cellsOf t ∧ xs.length = n ∧
      ∀ (i : Nat), i < n → DataW.trod enc P w base spare held m e ((cs.drop (i * P.cellsOf e)).take (P.cellsOf e)) = xs[i]? := by
  cases fuel with
  | zero => simp [DataW.trod] at h
  | succ m =>
    unfold DataW.trod at h
    rw [ht] at h
    split at h <;> simp_all
    obtain ⟨hl, xs, hp, hd⟩ := h
    exact ⟨xs, hd.symm, by simpa using mapM_some_length hp, fun i hi => mapM_some_get hp i i (by simp [hi])⟩

theorem leaves_trod : ∀ (n : Nat) (t : TypeId) (l : List TypeId), leaves P n t = some l → ∀ fuel cs x, DataW.trod enc P w base spare held fuel t cs = some x →
    cs.length = l.length ∧ ∀ (j : Nat) u, l[j]? = some u → ∃ v m y, cs[j]? = some v ∧ DataW.trod enc P w base spare held m u [v] = some y
  | 0, t, l, h, _, _, _, _ => by simp [leaves] at h
  | n + 1, t, l, h, fuel, cs, x, hx => by
    simp only [leaves] at h
    split at h
    · rename_i fs hfs
      split at h
      · rename_i l' hl'
        split at h
        · rename_i hc
          have hc := Nat.eq_of_beq_eq_true hc
          cases h
          obtain ⟨xs, m, rfl, _, hlen, hsz, hf⟩ := DataW.trod_struct hfs hx
          refine ⟨by omega, fun j u hj => ?_⟩
          obtain ⟨v, m', y', h1, h2⟩ := leavesFs_trod (cs := cs) (fun t l hl fuel cs x => leaves_trod n t l hl fuel cs x) fs.toList 0 _ hl' (fun f hf' => by
            obtain ⟨i, hi⟩ := List.getElem?_of_mem hf'
            have hi' : fs[i]? = some f := by simpa using hi
            have hlt : i < fs.size := (Array.getElem?_eq_some_iff.1 hi').1
            rw [← hsz] at hlt
            exact ⟨m, xs[i], by rw [hf i f hi']; simp [hlt]⟩) j u hj
          exact ⟨v, m', y', by simpa using h1, h2⟩
        · cases h
      · cases h
    · rename_i hu
      cases h
      obtain ⟨b, rfl, _⟩ := DataW.trod_bool hu hx
      refine ⟨rfl, fun j u hj => ?_⟩
      cases j with
      | zero => simp at hj; subst hj; exact ⟨_, _, _, rfl, hx⟩
      | succ j => simp at hj
    · rename_i hu
      cases h
      obtain ⟨b, rfl, _⟩ := DataW.trod_int hu hx
      refine ⟨rfl, fun j u hj => ?_⟩
      cases j with
      | zero => simp at hj; subst hj; exact ⟨_, _, _, rfl, hx⟩
      | succ j => simp at hj
    · rename_i hu
      cases h
      have : ∃ v, cs = [v] := by
        rcases DataW.trod_slice hu hx with ⟨rfl, _⟩ | ⟨a, len, cap, elems, rest, n, _, rfl, _⟩
        · exact ⟨_, rfl⟩
        · exact ⟨_, rfl⟩
      obtain ⟨v, rfl⟩ := this
      refine ⟨rfl, fun j u hj => ?_⟩
      cases j with
      | zero => simp at hj; subst hj; exact ⟨_, _, _, rfl, hx⟩
      | succ j => simp at hj
    · rename_i c e he
      split at h
      · rename_i l' hl'
        split at h
        · rename_i hc1 hc2
          have hc1 := Nat.eq_of_beq_eq_true hc1
          have hc2 := Nat.eq_of_beq_eq_true hc2
          cases h
          obtain ⟨xs, m, rfl, _, hlen, hsz, hf⟩ := arr_trod he hx
          refine ⟨by rw [repL_length]; omega, fun j u hj => ?_⟩
          obtain ⟨i, k, hi, rfl, hk⟩ := repL_get _ _ _ _ hj
          have hlt : i < xs.length := by omega
          have h1 := hf i hi
          rw [List.getElem?_eq_getElem hlt] at h1
          obtain ⟨q1, q2⟩ := leaves_trod n e l' hl' _ _ _ h1
          obtain ⟨v, m', y', r1, r2⟩ := q2 k u hk
          refine ⟨v, m', y', ?_, r2⟩
          have hkl : k < l'.length := (List.getElem?_eq_some_iff.1 hk).1
          rw [List.getElem?_take, if_pos (by omega), List.getElem?_drop, hc1] at r1
          exact r1
        · cases h
      · cases h
    · cases h

/-! ### the kinds of leaves -/
def leafKinds (P : Program) : List TypeId → Option (List CK)
  | [] => some []
  | t :: r => match P.underlying t, leafKinds P r with
    | some .bool, some l => some (.bool :: l)
    | some (.int k), some l => some (.int k :: l)
    | _, _ => none

def flatK (P : Program) (n : Nat) (t : TypeId) : Option (List CK) := match leaves P n t with
  | some l => leafKinds P l
  | none => none

def CellK (k : CK) (v : Value) : Prop := match k with
  | .int k => ∃ n, v = .int k n ∧ (Lit.int k n).wf = true
  | .bool => ∃ b, v = .bool b
  | .val => False

theorem leafKinds_length : ∀ (l : List TypeId) (ks : List CK), leafKinds P l = some ks → ks.length = l.length
  | [], ks, h => by simp [leafKinds] at h; subst h; rfl
  | t :: r, ks, h => by
    simp only [leafKinds] at h
    split at h
    · rename_i l hu hl; cases h; simp [leafKinds_length r l hl]
    · rename_i k l hu hl; cases h; simp [leafKinds_length r l hl]
    · cases h

theorem leafKinds_get : ∀ (l : List TypeId) (ks : List CK), leafKinds P l = some ks → ∀ (j : Nat) k, ks[j]? = some k → ∃ u, l[j]? = some u ∧
    ((k = .bool ∧ P.underlying u = some .bool) ∨ ∃ i, k = .int i ∧ P.underlying u = some (.int i))
  | [], ks, h, j, k, hk => by simp [leafKinds] at h; subst h; simp at hk
  | t :: r, ks, h, j, k, hk => by
    simp only [leafKinds] at h
    split at h
    · rename_i l hu hl
      cases h
      cases j with
      | zero => simp at hk; subst hk; exact ⟨t, rfl, .inl ⟨rfl, hu⟩⟩
      | succ j => exact leafKinds_get r l hl j k (by simpa using hk)
    · rename_i i l hu hl
      cases h
      cases j with
      | zero => simp at hk; subst hk; exact ⟨t, rfl, .inr ⟨i, rfl, hu⟩⟩
      | succ j => exact leafKinds_get r l hl j k (by simpa using hk)
    · cases h

theorem flat_trod {n : Nat} {t : TypeId} {ks : List CK} (h : flatK P n t = some ks) {fuel : Nat} {cs : List Value} {x : DataW H × List MemPlace} (hx : DataW.trod enc P w base spare held fuel t cs = some x) :
    cs.length = ks.length ∧ ∀ (j : Nat) k, ks[j]? = some k → ∃ v, cs[j]? = some v ∧ CellK k v := by
  unfold flatK at h
  split at h
  · rename_i l hl
    obtain ⟨h1, h2⟩ := leaves_trod n t l hl fuel cs x hx
    refine ⟨by rw [leafKinds_length l ks h]; exact h1, fun j k hk => ?_⟩
    obtain ⟨u, hu, hk'⟩ := leafKinds_get l ks h j k hk
    obtain ⟨v, m, y, hv, hy⟩ := h2 j u hu
    refine ⟨v, hv, ?_⟩
    rcases hk' with ⟨rfl, hb⟩ | ⟨i, rfl, hb⟩
    · obtain ⟨b, hb, _⟩ := DataW.trod_bool hb hy
      exact ⟨b, by simpa using hb⟩
    · obtain ⟨b, hb, _, hw⟩ := DataW.trod_int hb hy
      exact ⟨b, by simpa using hb, hw⟩
  · cases h

/-- Cells of given kinds, one by one. -/
def CellsP : List CK → (List Value → Prop) → Prop
  | [], Q => Q []
  | .int k :: ks, Q => ∃ n, (Lit.int k n).wf = true ∧ CellsP ks (fun vs => Q (.int k n :: vs))
  | .bool :: ks, Q => ∃ b, CellsP ks (fun vs => Q (.bool b :: vs))
  | .val :: _, _ => False

theorem cellsP_of : ∀ (ks : List CK) (cs : List Value) (Q : List Value → Prop), cs.length = ks.length → (∀ (j : Nat) k, ks[j]? = some k → ∃ v, cs[j]? = some v ∧ CellK k v) → Q cs → CellsP ks Q
  | [], cs, Q, hl, h, q => by
    have : cs = [] := by simpa using hl
    subst this; exact q
  | k :: ks, [], Q, hl, h, q => by simp at hl
  | k :: ks, c :: cs, Q, hl, h, q => by
    have h0 := h 0 k rfl
    obtain ⟨v, hv, hk⟩ := h0
    simp at hv
    subst hv
    have rest := fun Q' q' => cellsP_of ks cs Q' (by simpa using hl) (fun j k hj => by simpa using h (j + 1) k (by simpa using hj)) q'
    cases k with
    | int k => obtain ⟨n, rfl, hw⟩ := hk; exact ⟨n, hw, rest _ q⟩
    | bool => obtain ⟨b, rfl⟩ := hk; exact ⟨b, rest _ q⟩
    | val => exact hk.elim

/-- A struct of integers and bools among the arguments. -/
theorem open_flat {r : Reach} {b0 : Nat} {n : Nat} {t : TypeId} {fs : Array Field} {ks : List CK} {v : Value} {d : DataW H} {p : List MemPlace} (hs : P.underlying t = some (.struct fs)) (hk : flatK P n t = some ks)
    (hv : Value.okWide P w r b0 t v) (h : DataW.Trod enc P w base spare held t v d p) : CellsP ks (fun vs => v = .agg vs.toArray) := by
  simp only [Value.okWide, hs] at hv
  obtain ⟨cs, rfl, _, _⟩ := hv
  obtain ⟨fuel, hf⟩ := h
  obtain ⟨h1, h2⟩ := flat_trod hk hf
  exact cellsP_of ks _ _ h1 h2 (by simp [Value.cells])

/-! ### slices -/
def rowAV (sh : List CK) (num : Nat → Nat → Int) (bit : Nat → Nat → Bool) : Nat → Nat → AV := fun i j => match nth sh j with
  | some (.int k) => .sym k (num i j)
  | some .bool => .symb (bit i j)
  | _ => .top

def numOf : Option Value → Int
  | some (.int _ n) => n
  | _ => 0
def bitOf : Option Value → Bool
  | some (.bool b) => b
  | _ => false

/-- A slice of rows of integers and bools, that is only read. -/
theorem okWide_num {P : Program} {w : World} {r : Reach} {b0 : Nat} {t : TypeId} {v : Value} {k : IntKind} (ht : P.underlying t = some (.int k)) (h : Value.okWide P w r b0 t v) : ∃ n, v = .int k n ∧ (Lit.int k n).wf = true := by
  simp only [Value.okWide, ht, Cell.okWide] at h
  cases v <;> simp_all [Cell.ok, IntKind.has, Lit.wf]

theorem open_flat_arr {r : Reach} {b0 : Nat} {n : Nat} {t el : TypeId} {cnt : Nat} {ks : List CK} {v : Value} {d : DataW H} {p : List MemPlace} (hs : P.underlying t = some (.array el cnt)) (hk : flatK P n t = some ks)
    (hv : Value.okWide P w r b0 t v) (h : DataW.Trod enc P w base spare held t v d p) : CellsP ks (fun vs => v = .agg vs.toArray) := by
  simp only [Value.okWide, hs] at hv
  obtain ⟨cs, rfl, _, _⟩ := hv
  obtain ⟨fuel, hf⟩ := h
  obtain ⟨h1, h2⟩ := flat_trod hk hf
  exact cellsP_of ks _ _ h1 h2 (by simp [Value.cells])

theorem open_rows {n : Nat} {t e : TypeId} {ks : List CK} {fuel : Nat} {v : Value} {x : DataW H × List MemPlace} (ht : P.underlying t = some (.slice e)) (hk : flatK P n e = some ks) (hc : P.cellsOf e = ks.length) (hpos : 0 < ks.length)
    (hsp : ∀ a l c, v = .slice (some a) l c → a.spot = none)
    (h : DataW.trod enc P w base (fun _ => true) held fuel t [v] = some x) :
    ∃ (l : Loc) (len : Nat) (num : Nat → Nat → Int) (bit : Nat → Nat → Bool), l.wid = ks.length ∧ l.slice ks.length 0 len none = some v ∧ len ≤ l.cap ∧ l.cap ≤ maxLen ∧ (l.cap ≠ 0 → l.isnil = false) ∧
      (∀ ρ, ObjRep P ρ w l (.arr ks.length ks true len (rowAV ks num bit))) ∧ (∀ i, i < len → ∀ (j : Nat) k, ks[j]? = some (.int k) → (Lit.int k (num i j)).wf = true) := by
  rcases DataW.trod_slice ht h with ⟨h0, _⟩ | ⟨a, len, cap, elems, rest, m, _, hcs, _, hb, hl, hm, hlen, hel, hspare, _⟩
  · simp at h0
    subst h0
    refine ⟨⟨0, 0, ks.length, 0, true⟩, 0, fun _ _ => 0, fun _ _ => false, rfl, by simp [Loc.slice, capOr], Nat.le_refl _, Nat.zero_le _, fun h => (h rfl).elim, fun ρ => ⟨rfl, rfl, Nat.le_refl _, fun _ => rfl, fun h => (h rfl).elim⟩, fun i hi => by omega⟩
  · simp at hcs
    subst hcs
    have hspot := hsp a len cap rfl
    obtain ⟨blk, off, spot⟩ := a
    simp only at hspot
    subst hspot
    -- the row's cells
    have key : ∀ i, i < cap → ∃ cs y, w.cells? base ((⟨blk, off, none⟩ : Addr).add (i * ks.length)) ks.length = some cs ∧ DataW.trod enc P w base (fun _ => true) held m e cs = some y := by
      intro i hi
      by_cases hil : i < len
      · have h1 := hel i hil
        have : elems[i]? = some elems[i] := by simp [hlen, hil]
        rw [this, hc, Option.bind_eq_some_iff] at h1
        obtain ⟨cs, h1, h2⟩ := h1
        exact ⟨cs, _, h1, h2⟩
      · obtain ⟨hr, h1⟩ := hspare rfl
        have h1 := h1 (i - len) (by omega)
        have hlt : i - len < rest.length := by omega
        have : rest[i - len]? = some rest[i - len] := by simp [hlt]
        rw [this, hc, Option.bind_eq_some_iff, show len + (i - len) = i by omega] at h1
        obtain ⟨cs, h1, h2⟩ := h1
        exact ⟨cs, _, h1, h2⟩
    have cell : ∀ i, i < cap → ∀ (j : Nat) k, ks[j]? = some k → ∃ v, w.cell? ⟨blk, off + i * ks.length + j, none⟩ = some v ∧ CellK k v := by
      intro i hi j k hj
      obtain ⟨cs, y, h1, h2⟩ := key i hi
      obtain ⟨q1, q2⟩ := flat_trod hk h2
      obtain ⟨v, hv, hk'⟩ := q2 j k hj
      have hjl : j < ks.length := (List.getElem?_eq_some_iff.1 hj).1
      have := (World.cells?_some h1).2.2 j hjl
      refine ⟨v, ?_, hk'⟩
      rw [hv] at this
      rw [← this]
      simp only [Addr.add]
      split <;> split <;> simp_all <;> omega
    refine ⟨⟨blk, off, ks.length, cap, false⟩, len, fun i j => numOf (w.cell? ⟨blk, off + i * ks.length + j, none⟩), fun i j => bitOf (w.cell? ⟨blk, off + i * ks.length + j, none⟩), rfl, ?_, hl, hm, fun _ => rfl, fun ρ => ⟨rfl, rfl, hl, fun h => (by cases h), fun hcap => ?_⟩, ?_⟩
    · simp [Loc.slice, capOr, hl]
    · simp only at hcap
      obtain ⟨k0, hk0⟩ : ∃ k, ks[0]? = some k := ⟨ks[0], by simp [hpos]⟩
      obtain ⟨v0, hv0, _⟩ := cell 0 (by omega) 0 k0 hk0
      cases hB : w.heap[blk]? with
      | none => simp [World.cell?, hB] at hv0
      | some o =>
        cases o with
        | cells c t' fr =>
          refine ⟨c, t', fr, rfl, fun h => (by cases h), ?_, ?_⟩
          · obtain ⟨kl, hkl⟩ : ∃ k, ks[ks.length - 1]? = some k := ⟨ks[ks.length - 1], by simp⟩
            obtain ⟨vl, hvl, _⟩ := cell (cap - 1) (by omega) _ kl hkl
            simp only [World.cell?, hB] at hvl
            have := (Array.getElem?_eq_some_iff.1 (by simpa using hvl)).1
            have e1 : cap * ks.length = (cap - 1) * ks.length + ks.length := by
              rw [← Nat.succ_mul]; congr 1; omega
            simp only
            omega
          · intro i hi j k hj
            obtain ⟨v, hv, hk'⟩ := cell i (by omega) j k hj
            have hv' : c[off + i * ks.length + j]? = some v := by simpa [World.cell?, hB] using hv
            have hn : nth ks j = some k := by rw [nth_eq]; exact hj
            cases k with
            | int k =>
              obtain ⟨n, rfl, _⟩ := hk'
              refine ⟨⟨n, .inr (by simp [rowAV, hn, hv, numOf])⟩, _, hv', by simp [rowAV, hn, hv, numOf, den]⟩
            | bool =>
              obtain ⟨b, rfl⟩ := hk'
              refine ⟨⟨b, .inr (by simp [rowAV, hn, hv, bitOf])⟩, _, hv', by simp [rowAV, hn, hv, bitOf, den]⟩
            | val => exact hk'.elim
        | _ => simp [World.cell?, hB] at hv0
    · intro i hi j k hj
      obtain ⟨v, hv, n, rfl, hw⟩ := cell i (by omega) j _ hj
      simp [hv, numOf, hw]

end

/-- What stood before the call stands. -/
theorem Fr.below {w w' : World} {B : Nat → Prop} (h : Fr w w' B) (hB : ∀ b, b < w.heap.size → ¬ B b) : RowKit.Below w.heap.size w w' :=
  ⟨h.os, h.tape, h.output, h.size, fun k hk => h.same k hk (hB k hk)⟩

section
variable {H : Type} {enc : TypeId × Value → H} {P : Program}

theorem trodAll_below (hl : laidOutB P = true) {W W' : World} (hb : RowKit.Below W.heap.size W W') :
    ∀ {ts : List TypeId} {vs : List Value} {ds : List (DataW H)} {ps : List MemPlace}, (∀ t ∈ ts, P.readableRec t = true ∧ t < P.types.size) → DataW.TrodAll enc P W 0 (fun _ => true) true ts vs ds ps →
      (∀ x ∈ ps, x.block < W.heap.size) → DataW.TrodAll enc P W' 0 (fun b => decide (b < W.heap.size)) true ts vs ds ps
  | [], [], [], ps, _, h, _ => h
  | t :: ts, v :: vs, d :: ds, ps, ht, h, hlt => by
    obtain ⟨p, q, h1, h2, rfl⟩ := h
    exact ⟨p, q, RowKit.Below.trod hl (ht t (by simp)).1 (ht t (by simp)).2 h1 hb (fun x hx => hlt x (by simp [hx])), trodAll_below hl hb (fun t h => ht t (by simp [h])) h2 (fun x hx => hlt x (by simp [hx])), rfl⟩
  | [], _ :: _, _, _, _, h, _ => by cases h
  | [], [], _ :: _, _, _, h, _ => by cases h
  | _ :: _, [], _, _, _, h, _ => by cases h
  | _ :: _, _ :: _, [], _, _, h, _ => by cases h

/-- What a row of a law asks behind the call. -/
theorem law_post {f : Func} {s : ChangeSpec} {apart fresh handsOn : Bool} {W W' : World} {args : Array Value} {ds gs : List (DataW H)} {before : List MemPlace} {tb : TypeId}
    (hl : laidOutB P = true) (hts : ∀ t ∈ f.params.toList, P.readableRec t = true ∧ t < P.types.size) (hr : f.resultTypes = #[tb]) (htb : P.underlying tb = some .bool)
    (hvars : s.vars = []) (hW : DataW.Whole enc P f.params.toList s.vars apart W args.toList ds gs before)
    (hres : (s.fn H (ds ++ gs)).results = [.lit (.bool true)]) (hargs : (s.fn H (ds ++ gs)).args = ds) (hvs : (s.fn H (ds ++ gs)).vars = [])
    (hb : RowKit.Below W.heap.size W W') : s.post enc P f apart fresh handsOn false W args (.bool true) W' := by
  have hlt := hW.lt
  have hW0 := hW
  obtain ⟨p, q, hA, hV, rfl, _, _⟩ := hW0
  rw [hvars] at hV
  cases gs with
  | cons g gs => cases hV
  | nil =>
    refine ⟨ds, [], p ++ q, [], p, [], hW, ?_, ?_, ?_, hb.frame _, fun h => by cases h⟩
    · rw [hres, hr]
      exact ChangeShapes.trodAll_mk1 ⟨1, by simp [Value.cells, DataW.trod, htb]⟩
    · rw [hargs]
      exact trodAll_below hl hb hts hA (fun x hx => hlt x (by simp [hx]))
    · rw [hvs, hvars]; rfl

end

/-- A slice that is an argument has a place of its own make. -/
theorem okWide_spot {P : Program} {w : World} {r : Reach} {base : Nat} {t e : TypeId} {v : Value} (ht : P.underlying t = some (.slice e)) (h : Value.okWide P w r base t v) : ∀ a l c, v = .slice (some a) l c → a.spot = none := by
  rintro a l c rfl
  simp only [Value.okWide, ht, Cell.okWide, Cell.ok] at h
  exact h.2.2.2.1

/-! ### the start's names -/
def inp (ls : List (Nat × Loc)) : Ren := fun n => match get ls n with
  | some l => some l
  | none => if gnm 0 ≤ n then some ⟨n - gnm 0, 0, 0, 0, false⟩ else none

def namesBelow (nxt : Nat) : List (Nat × Loc) → Bool
  | [] => true
  | (n, _) :: r => match Nat.blt n nxt with
    | true => namesBelow nxt r
    | false => false

theorem get_namesBelow {nxt : Nat} : ∀ (ls : List (Nat × Loc)), namesBelow nxt ls = true → ∀ n, nxt ≤ n → get ls n = none
  | [], _, n, _ => rfl
  | (m, l) :: r, h, n, hn => by
    simp only [namesBelow] at h
    split at h
    · rename_i hlt
      have hlt : m < nxt := by simpa [Nat.blt_eq] using hlt
      have : Nat.beq m n = false := by rw [← Bool.not_eq_true, Nat.beq_eq]; omega
      simp [get, this, get_namesBelow r h n hn]
    · cases h

theorem inp_fresh {ls : List (Nat × Loc)} {nxt hi : Nat} (h : namesBelow nxt ls = true) (hh : hi ≤ gnm 0) : Fresh (inp ls) nxt hi := by
  intro n h1 h2
  have : ¬ gnm 0 ≤ n := by omega
  simp [inp, get_namesBelow ls h n h1, this]

theorem inp_glob {ls : List (Nat × Loc)} {nxt : Nat} (h : namesBelow nxt ls = true) (hh : nxt ≤ gnm 0) : GOk (inp ls) := by
  intro g
  have hg : gnm 0 ≤ gnm g := by unfold gnm; omega
  refine ⟨⟨g, 0, 0, 0, false⟩, ?_, rfl, rfl, rfl⟩
  have : gnm g - gnm 0 = g := by unfold gnm; omega
  simp [inp, get_namesBelow ls h (gnm g) (by omega), hg, this]

theorem inp_one {n : Nat} {l : Loc} : inp [(n, l)] n = some l := by simp [inp, get]

theorem inp_of {ls : List (Nat × Loc)} {n : Nat} {l : Loc} (h : get ls n = some l) : inp ls n = some l := by simp [inp, h]

/-- No name of a list stands in a heap. -/
def noneIn (heap : List (Nat × AO)) : List Nat → Bool
  | [] => true
  | n :: r => match get heap n with
    | none => noneIn heap r
    | some _ => false

theorem noneIn_get {heap : List (Nat × AO)} : ∀ (l : List Nat), noneIn heap l = true → ∀ n ∈ l, get heap n = none
  | [], _, n, h => by cases h
  | m :: r, h, n, hn => by
    simp only [noneIn] at h
    split at h
    · rename_i hm
      rcases List.mem_cons.1 hn with rfl | hn
      · exact hm
      · exact noneIn_get r h n hn
    · cases h

def isTrue (v : AV) : Prop := v = .bool true ∨ v = .symb true

/-- A law's call, out of its evaluation. -/
theorem run_law {E : Env} (hE : EnvOk E) {fuel f : Nat} {args : List AV} {heap : List (Nat × AO)} {nxt hi : Nat} {hints : List Hint} {auto : Bool} {v : AV} {h' : Hp} {W : World} {xs : List Value} {ls : List (Nat × Loc)}
    (hcall : callF E fuel f args ⟨heap, nxt, hi, hints, [], [], auto⟩ = some (v, h')) (hv : isTrue v) (hob : Obs h') (hwr : noneIn heap h'.wr = true)
    (hrep : HeapRep E.P (inp ls) heap W) (hx : denL (inp ls) args = some xs) (hn : namesBelow nxt ls = true) (hn2 : nxt ≤ gnm 0) (hhi : hi ≤ gnm 0) :
    Calls E.P f xs.toArray W fun e W' => e = .returned (.bool true) ∧ RowKit.Below W.heap.size W W' := by
  have hC := ((all_ok hE fuel).ca f args _ v h' hcall).wp hob (inp ls) W hrep (inp_fresh hn hhi) (inp_glob hn hn2) xs hx
  refine hC.mono fun e w' ⟨x, ρ', he, hr, hst⟩ => ?_
  refine ⟨?_, hst.fr.below fun b _ ⟨m, hm, o, l, h1, _⟩ => ?_⟩
  · rw [he]
    rcases hv with rfl | rfl
    · simp [relS, den] at hr
      simp [← hr]
    · simp [relS, den] at hr
      simp [← hr]
  · rw [noneIn_get _ hwr m hm] at h1; cases h1

theorem run_law' {E : Env} (hE : EnvOk E) {fuel f : Nat} {args : List AV} {heap : List (Nat × AO)} {nxt hi : Nat} {hints : List Hint} {auto : Bool} {v : AV} {ob : List Prop} {W : World} {xs : List Value} {ls : List (Nat × Loc)}
    (hcall : (callF E fuel f args ⟨heap, nxt, hi, hints, [], [], auto⟩).map (fun x => (x.1, x.2.ob, noneIn heap x.2.wr)) = some (v, ob, true)) (hv : isTrue v) (hob : ∀ p ∈ ob, p)
    (hrep : HeapRep E.P (inp ls) heap W) (hx : denL (inp ls) args = some xs) (hn : namesBelow nxt ls = true) (hn2 : nxt ≤ gnm 0) (hhi : hi ≤ gnm 0) :
    Calls E.P f xs.toArray W fun e W' => e = .returned (.bool true) ∧ RowKit.Below W.heap.size W W' := by
  cases hc : callF E fuel f args ⟨heap, nxt, hi, hints, [], [], auto⟩ with
  | none => rw [hc] at hcall; cases hcall
  | some y =>
    obtain ⟨v', h'⟩ := y
    rw [hc] at hcall
    simp only [Option.map_some, Option.some.injEq, Prod.mk.injEq] at hcall
    obtain ⟨rfl, rfl, h3⟩ := hcall
    exact run_law hE hc hv hob h3 hrep hx hn hn2 hhi

theorem heapRep_one {P : Program} {W : World} {n : Nat} {l : Loc} {o : AO} (h : ∀ ρ, ObjRep P ρ W l o) : HeapRep P (inp [(n, l)]) [(n, o)] W := by
  refine ⟨fun m x e => ?_, fun m k x y l1 l2 h1 h2 hne => ?_⟩
  · simp only [get] at e
    split at e
    · rename_i hb; cases e
      have hb := Nat.eq_of_beq_eq_true hb
      subst hb
      exact ⟨l, inp_of (by simp [get]), h _⟩
    · cases e
  · exfalso
    simp only [get] at h1 h2
    split at h1
    · split at h2
      · rename_i a _ b
        have a := Nat.eq_of_beq_eq_true a
        have b := Nat.eq_of_beq_eq_true b
        omega
      · cases h2
    · cases h1

theorem heapRep_nil {P : Program} {ρ : Ren} {W : World} : HeapRep P ρ [] W := ⟨fun n o e => by simp [get] at e, fun n m o o' l l' e => by simp [get] at e⟩

/-! ### the whole of a law's row -/
/-- What is to be shown of a law: whatever its arguments, it answers true, and nothing that was there has changed. -/
def LawRuns (P : Program) (f : Nat) (ts : List TypeId) : Prop :=
  ∀ (H : Type) (enc : TypeId × Value → H) (W : World) (base : Nat) (args : List Value) (ds : List (DataW H)) (p : List MemPlace),
    (∀ (j : Nat) t v, ts[j]? = some t → args[j]? = some v → Value.okWide P W .any base t v) → DataW.TrodAll enc P W 0 (fun _ => true) true ts args ds p →
    Calls P f args.toArray W fun e W' => e = .returned (.bool true) ∧ RowKit.Below W.heap.size W W'

theorem law_contract {P : Program} {f : Nat} {fn : Func} {ts : List TypeId} (hp : fn.params = ts.toArray) (h : LawRuns P f ts) {H : Type} {enc : TypeId × Value → H} {s : ChangeSpec} {apart fresh handsOn : Bool} {tb : TypeId}
    (hl : laidOutB P = true) (hts : ∀ t ∈ fn.params.toList, P.readableRec t = true ∧ t < P.types.size) (hr : fn.resultTypes = #[tb]) (htb : P.underlying tb = some .bool) (hvars : s.vars = [])
    (hs : ∀ ds : List (DataW H), ds.length = ts.length → (s.fn H ds).results = [.lit (.bool true)] ∧ (s.fn H ds).args = ds ∧ (s.fn H ds).vars = [])
    (W : World) (base : Nat) (args : Array Value) (ds gs : List (DataW H)) (before : List MemPlace) (hval : ∀ (j : Nat) t v, fn.params[j]? = some t → args[j]? = some v → Value.okWide P W .any base t v)
    (hW : DataW.Whole enc P fn.params.toList s.vars apart W args.toList ds gs before) :
    Calls P f args W fun e W' => ∃ v, e = .returned v ∧ s.post enc P fn apart fresh handsOn false W args v W' := by
  have hW0 := hW
  obtain ⟨p, q, hA, hV, rfl, _, _⟩ := hW0
  rw [hvars] at hV
  cases gs with
  | cons g gs => cases hV
  | nil =>
    have hlen := (trodAll_length hA).2
    rw [hp] at hA hlen
    have := h H enc W base args.toList ds p (fun j t v h1 h2 => hval j t v (by rw [hp]; simpa using h1) (by simpa using h2)) (by simpa using hA)
    rw [Array.toArray_toList] at this
    refine this.mono fun e W' ⟨he, hb⟩ => ⟨.bool true, he, ?_⟩
    obtain ⟨h1, h2, h3⟩ := hs ds (by simpa using hlen)
    exact law_post hl hts hr htb hvars hW (by simpa using h1) (by simpa using h2) (by simpa using h3) hb

theorem u64_range {n : Int} (h : (Lit.int .u64 n).wf = true) : 0 ≤ n ∧ n < 18446744073709551616 := by
  simp [Lit.wf, IntKind.min, IntKind.max, IntKind.bits, IntKind.signed] at h
  omega
theorem u8_wrap64 {n : Int} (h : (Lit.int .u8 n).wf = true) : IntKind.i64.wrap n = n := by
  simp [Lit.wf, IntKind.min, IntKind.max, IntKind.bits, IntKind.signed] at h
  have e : n % 18446744073709551616 = n := Int.emod_eq_of_lt (by omega) (by omega)
  show (if (true && decide (n % 18446744073709551616 ≥ (9223372036854775808 : Int))) = true then n % 18446744073709551616 - 18446744073709551616 else n % 18446744073709551616) = n
  rw [e]
  have h2 : ¬ (9223372036854775808 : Int) ≤ n := by omega
  simp [h2]
/-! ### closed calls -/
def scalar : AV → Bool
  | .int .. => true
  | .bool _ => true
  | .sym .. => true
  | .symb _ => true
  | .nilp => true
  | .nils => true
  | .nilm => true
  | .nilf => true
  | .nili => true
  | .tup [] => true
  | _ => false

theorem scalar_rel {v : AV} (h : scalar v = true) {ρ ρ' : Ren} {x : Value} (r : relS ρ v x) : relS ρ' v x := by
  unfold scalar at h
  split at h <;> first | (cases h; done) | exact r.imp id (fun e => by simpa [den, denL] using e)

/-- A call without arguments, evaluated over no memory, whose answer is a plain value: it may be taken as known everywhere. -/
theorem closed_ok {E : Env} (hE : EnvOk E) {fuel f nxt : Nat} {v : AV} {h1 : Hp} (hc : callF E fuel f [] ⟨[], nxt, gnm 0, [], [], [], true⟩ = some (v, h1)) (hob : h1.ob = []) (hv : scalar v = true) (h : Hp) :
    CaOk E.P f [] h v h := by
  refine ⟨Mono.refl h, fun _ ρ w hr hf hg xs hx => ?_⟩
  simp [denL] at hx
  subst hx
  let ρ0 : Ren := fun n => if gnm 0 ≤ n then ρ n else none
  have g0 : GOk ρ0 := fun g => by
    obtain ⟨l, hl, r⟩ := hg g
    have hg0 : gnm 0 ≤ gnm g := by unfold gnm; omega
    exact ⟨l, by simp [ρ0, hg0, hl], r⟩
  have := ((all_ok hE fuel).ca f [] _ v h1 hc).wp (by intro p hp; rw [hob] at hp; cases hp) ρ0 w ⟨fun n o e => by simp [get] at e, fun n m o o' l l' e => by simp [get] at e⟩
    (fun n h1 h2 => by simp at h1 h2; simp [ρ0]; omega) g0 [] rfl
  refine this.mono fun e w' ⟨x, ρ', he, hx, hs⟩ => ⟨x, ρ, he, scalar_rel hv hx, ?_⟩
  have same : ∀ b, b < w.heap.size → w'.heap[b]? = w.heap[b]? := fun b hb => hs.fr.same b hb (fun ⟨m, hm, o, l, e, _⟩ => by simp [get] at e)
  refine ⟨Le.refl ρ, fun n l a b => (by rw [a] at b; cases b), ⟨fun n o e => ?_, hr.2⟩, ⟨hs.fr.size, fun b hb _ => same b hb, hs.fr.tape, hs.fr.os, hs.fr.output⟩, fun n o l a b c _ => ⟨n, o, l, a, rfl, b, c, rfl, .inl rfl⟩⟩
  obtain ⟨l, hl, ho⟩ := hr.1 n o e
  exact ⟨l, hl, ho.keep (Le.refl ρ) (fun hc => same _ (ho.lt hc))⟩

end Go.Ev
