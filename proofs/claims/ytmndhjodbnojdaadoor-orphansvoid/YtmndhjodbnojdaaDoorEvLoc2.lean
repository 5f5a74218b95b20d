/-
  EvLoc2 and what follows it.
-/
import Derived.Test.YtmndhjodbnojdaaDoorEvCore
import Derived.Test.YtmndhjodbnojdaaDoorEvEntry
/-
  A loop seen under names of its own: the evaluator's step is sound.
-/
set_option linter.unusedSimpArgs false
set_option linter.unusedVariables false
namespace Go.Ev

theorem relL_mask {ρ : Ren} (keep : List Nat) {l : List AV} {xs : List Value} (h : RelL ρ l xs) : RelL ρ (mask keep l 0) xs := by
  obtain ⟨h1, h2⟩ := h
  refine ⟨by rw [mask_length, h1], fun k v hk => ?_⟩
  rw [mask_get] at hk
  cases hv : l[k]? with
  | none => rw [hv] at hk; cases hk
  | some u =>
    obtain ⟨x, hx, hr⟩ := h2 k u hv
    rw [hv] at hk
    simp only [Option.map_some, Option.some.injEq] at hk
    refine ⟨x, hx, ?_⟩
    subst hk
    split
    · exact hr
    · exact .inl rfl

theorem lpl_ok {P : Program} {body : Code} {keep r : List Nat} {p k : Nat} {e : Ex} {tm : List AV} {heap : List (Nat × AO)} {wr0 : List Nat} {s sl : St} {tmo : List AV} {hp : List (Nat × AO)} {wr : List Nat} {rest : List Hint} {ob : List Prop} {auto : Bool}
    (hin0 : loopIn keep r p s = some sl) (hout0 : loopOut r p k tm heap wr0 s = some (tmo, hp, wr)) (H : LoopHolds P body sl e ⟨tm, ⟨heap, r.length + 1 + k, gnm 0, [], [], wr0, false⟩⟩) :
    ∀ ρ a w Q, Pre P ρ s.tmps s.hp a w → Post P ρ s.hp w e ⟨tmo, ⟨hp, s.hp.nxt + k, s.hp.hi, rest, ob, addAll wr s.hp.wr, auto⟩⟩ Q → (Code.loop body).wp P Q a w := by
  intro ρ a w Q pre post
  unfold loopIn at hin0
  split at hin0
  case h_2 => cases hin0
  rename_i la rp hla hrp
  split at hin0
  case h_2 => cases hin0
  rename_i lh hlh hall hnd hgb
  cases hin0
  unfold loopOut at hout0
  split at hout0
  case h_2 => cases hout0
  rename_i tmo' hp' wr' hk htm hout hwr
  cases hout0
  obtain ⟨hr, hf, hg⟩ : HeapRep P ρ s.hp.heap w ∧ Fresh ρ s.hp.nxt s.hp.hi ∧ GOk ρ := ⟨pre.rep, pre.fresh, pre.glob⟩
  simp only [Bool.and_eq_true] at hk hgb
  have hhi : s.hp.hi ≤ gnm 0 := Nat.le_of_ble_eq_true hgb.2
  have hng := notGlobB_get r hgb.1
  have hnd := nodupB_nd r hnd
  have hk2 : r.length + 1 + k ≤ gnm 0 := Nat.le_of_ble_eq_true hk.1
  have hnx : s.hp.nxt + k ≤ s.hp.hi := Nat.le_of_ble_eq_true hk.2.1
  have hno := noneAt_get heap hk.2.2
  obtain ⟨hpl, hrp⟩ := takeN_eq p r rp hrp
  let ρl : Ren := fun l => if gnm 0 ≤ l then ρ l else match l with
    | 0 => none
    | m + 1 => match r[m]? with
      | some b => ρ b
      | none => none
  have hρg : ∀ l, gnm 0 ≤ l → ρl l = ρ l := fun l hl => by simp [ρl, hl]
  have hρi : ∀ m b, m + 1 < gnm 0 → r[m]? = some b → ρl (m + 1) = ρ b := fun m b hm hb => by
    have : ¬ gnm 0 ≤ m + 1 := by omega
    simp [ρl, this, hb]
  have hrl : ∀ m b, r[m]? = some b → m < r.length := fun m b hb => (List.getElem?_eq_some_iff.1 hb).1
  have H1 : ∀ n k, toLoc r n = some k → ρl k = ρ n := by
    intro n k hn
    rcases toLoc_spec hn with ⟨a, rfl⟩ | ⟨a, b, c⟩
    · exact hρg _ a
    · have := hrl _ _ c
      have := hρi (k - 1) n (by omega) c
      rw [← this]; congr 1; omega
  obtain ⟨g1, g2⟩ := locHeap_get rp lh hlh
  have hrep : HeapRep P ρl lh w := by
    refine ⟨fun k o' hk => ?_, fun k k2 o o2 l l2 ha hb hne hro hl hl2 hc hc2 => ?_⟩
    · obtain ⟨b, hb, o, q1, q2, q3⟩ := g2 k o' hk
      obtain ⟨l, hl, hob⟩ := hr.1 b o q2
      exact ⟨l, (H1 b k q1).trans hl, (renO_rep H1 q3 hob).1⟩
    · obtain ⟨b, hbm, p, q1, q2, q3⟩ := g2 k o ha
      obtain ⟨b', hbm', p', q1', q2', q3'⟩ := g2 k2 o2 hb
      obtain ⟨x1, hx1, hob1⟩ := hr.1 b p q2
      obtain ⟨x2, hx2, hob2⟩ := hr.1 b' p' q2'
      have e1 := (renO_rep H1 q3 hob1).2
      have e2 := (renO_rep H1 q3' hob2).2
      have hbb : b ≠ b' := fun x => by subst x; rw [q1] at q1'; cases q1'; exact hne rfl
      rw [H1 b k q1] at hl
      rw [H1 b' k2 q1'] at hl2
      exact hr.2 b b' p p' l l2 q2 q2' hbb (by rw [← e1, ← e2]; exact hro) hl hl2 hc hc2
  have hfr : Fresh ρl (r.length + 1) (gnm 0) := by
    intro n h1 h2
    have : ¬ gnm 0 ≤ n := by omega
    cases n with
    | zero => omega
    | succ m =>
      have hm : r[m]? = none := by simp; omega
      simp [ρl, this, hm]
  have hgl : GOk ρl := fun g => by
    obtain ⟨l, hl, q⟩ := hg g
    exact ⟨l, (hρg _ (by unfold gnm; omega)).trans hl, q⟩
  have hrel : RelL ρl la a.tmps.toList := by
    have q := relL_mask keep pre.rel
    obtain ⟨z1, z2⟩ := renL_get _ _ hla
    refine ⟨z1.trans q.1, fun j v' hj => ?_⟩
    obtain ⟨v, hv, hv'⟩ := z2 j v' hj
    obtain ⟨x, hx, hxr⟩ := q.2 j v hv
    exact ⟨x, hx, renV_rel H1 hv' hxr⟩
  refine H ρl a w Q ⟨hrel, pre.defers, hrep, hfr, hgl⟩ (fun ρl' a' w' hrel' hdef st => ?_)
  let ρ' : Ren := fun m => if s.hp.nxt ≤ m ∧ m < s.hp.nxt + k then ρl' (r.length + 1 + (m - s.hp.nxt)) else ρ m
  have hsome : ∀ b l, ρ b = some l → ¬ (s.hp.nxt ≤ b ∧ b < s.hp.nxt + k) := fun b l hb hn => by
    have := hf b hn.1 (by omega); rw [this] at hb; cases hb
  have hle : Le ρ ρ' := fun n l hn => by simp only [ρ']; rw [if_neg (hsome n l hn)]; exact hn
  have hin : ∀ b ∈ r, ∃ o l, get s.hp.heap b = some o ∧ ρ b = some l := fun b hb => by
    obtain ⟨o, q2⟩ := allIn_get r hall b hb
    obtain ⟨l, hl⟩ := hr.loc q2
    exact ⟨o, l, q2, hl⟩
  have H2 : ∀ l b, toOut r s.hp.nxt k l = some b → ρ' b = ρl' l := by
    intro l b hb
    rcases toOut_spec hb with ⟨a, rfl⟩ | ⟨a, m, rfl, hm | ⟨m1, m2, rfl⟩⟩
    · obtain ⟨L, hL, _⟩ := hg (b - gnm 0)
      have eb : gnm (b - gnm 0) = b := by unfold gnm at a ⊢; omega
      rw [eb] at hL
      rw [hle b L hL, st.le b L ((hρg b a).trans hL)]
    · obtain ⟨o, L, _, hL⟩ := hin b (List.mem_of_getElem? hm)
      rw [hle b L hL, st.le (m + 1) L ((hρi m b a hm).trans hL)]
    · simp only [ρ']
      rw [if_pos (by omega)]
      congr 1; omega
  have inj : ∀ i j b, i ≤ r.length + k → j ≤ r.length + k → 1 ≤ i → 1 ≤ j → toOut r s.hp.nxt k i = some b → toOut r s.hp.nxt k j = some b → i = j := by
    intro i j b hi hj hi1 hj1 e1 e2
    rcases toOut_spec e1 with ⟨a, _⟩ | ⟨_, m, rfl, hm⟩
    · omega
    rcases toOut_spec e2 with ⟨a, _⟩ | ⟨_, m', rfl, hm'⟩
    · omega
    rcases hm with hm | ⟨m1, m2, rfl⟩
    · rcases hm' with hm' | ⟨m1', m2', rfl⟩
      · obtain ⟨ha, ha'⟩ := List.getElem?_eq_some_iff.1 hm
        obtain ⟨hb, hb'⟩ := List.getElem?_eq_some_iff.1 hm'
        have := (List.getElem_inj hnd).1 (ha'.trans hb'.symm)
        omega
      · obtain ⟨o, L, _, hL⟩ := hin _ (List.mem_of_getElem? hm)
        exact (hsome _ L hL (by omega)).elim
    · rcases hm' with hm' | ⟨m1', m2', e3⟩
      · obtain ⟨o, L, _, hL⟩ := hin _ (List.mem_of_getElem? hm')
        exact (hsome _ L hL (by omega)).elim
      · omega
  obtain ⟨k1, k2⟩ := outHeapP_get _ hp hout inj
  -- what a local name with an object stands for
  have loc : ∀ m o1, get lh m = some o1 → ∃ b o2, toOut r s.hp.nxt k m = some b ∧ 1 ≤ m ∧ m ≤ p ∧ m ≤ r.length ∧ get s.hp.heap b = some o2 ∧ o1.ro = o2.ro ∧ ρl m = ρ b := by
    intro m o1 hm
    obtain ⟨b, hb, o2, q1, q2, q3⟩ := g2 m o1 hm
    rw [hrp] at hb
    have hbr : b ∈ r := List.mem_of_mem_take hb
    have hbl := hng b hbr
    rcases toLoc_spec q1 with ⟨a, rfl⟩ | ⟨a, c, d⟩
    · omega
    · have hm1 := hrl _ _ d
      refine ⟨b, o2, toOut_old c (by omega) d, c, ?_, by omega, q2, (renO_rep H1 q3 (hr.1 b o2 q2).choose_spec.2).2, H1 b m q1⟩
      obtain ⟨i, hi, hib⟩ := List.mem_take_iff_getElem.1 hb
      obtain ⟨hd1, hd2⟩ := List.getElem?_eq_some_iff.1 d
      have := (List.getElem_inj hnd (h₀ := by omega) (h₁ := hd1)).1 (hib.trans hd2.symm)
      omega
  have wrin : ∀ m ∈ wr0, m < gnm 0 ∧ ∃ b, toOut r s.hp.nxt k m = some b ∧ b ∈ wr := outNames_get _ _ hwr
  have stay : ∀ b o L, (∀ l, 1 ≤ l → l ≤ r.length + k → ¬ (p < l ∧ l ≤ r.length) → toOut r s.hp.nxt k l ≠ some b) → get s.hp.heap b = some o → ρ b = some L → L.cap ≠ 0 → w'.heap[L.blk]? = w.heap[L.blk]? := by
    intro b o L hb hgb hL hc
    obtain ⟨L', hL', hob⟩ := hr.1 b o hgb
    rw [hL] at hL'; cases hL'
    refine st.fr.same L.blk (hob.lt hc) ?_
    rintro ⟨m, hm, o1, L1, y1, y2, y3, y4, y5⟩
    obtain ⟨b1, o2, z1, z2, z3, z33, z4, z5, z6⟩ := loc m o1 y1
    have hne : b1 ≠ b := fun x => by subst x; exact hb m z2 (by omega) (by omega) z1
    rw [z6] at y3
    exact hr.2 b1 b o2 o L1 L z4 hgb hne (by rw [← z5, y2]; rfl) y3 hL y4 hc y5
  have apart : ∀ l o' L1 b2 o2 L2, get heap l = some o' → ρl' l = some L1 → L1.cap ≠ 0 → (∀ l, 1 ≤ l → l ≤ r.length + k → ¬ (p < l ∧ l ≤ r.length) → toOut r s.hp.nxt k l ≠ some b2) → get s.hp.heap b2 = some o2 → ρ b2 = some L2 → L2.cap ≠ 0 →
      (o'.ro && o2.ro) = false → L1.blk ≠ L2.blk := by
    intro l o' L1 b2 o2 L2 hgl hL1 hc1 hb2 hg2 hL2 hc2 hro heq
    obtain ⟨L', hL', hob⟩ := hr.1 b2 o2 hg2
    rw [hL2] at hL'; cases hL'
    have hlt := hob.lt hc2
    obtain ⟨m, o3, L3, y1, y2, y3, y4, y5, y6⟩ := st.own l o' L1 hgl hL1 hc1 (by rw [heq]; exact hlt)
    obtain ⟨b1, o4, z1, z2, z3, z33, z4, z5, z6⟩ := loc m o3 y1
    have hne : b1 ≠ b2 := fun x => by subst x; exact hb2 m z2 (by omega) (by omega) z1
    rw [z6] at y3
    exact hr.2 b1 b2 o4 o2 L3 L2 z4 hg2 hne (by rw [← z5, y2]; exact hro) y3 hL2 y4 hc2 (y5.trans heq)
  have kind : ∀ b o, get hp b = some o → (∃ l o' , 1 ≤ l ∧ l ≤ r.length + k ∧ ¬ (p < l ∧ l ≤ r.length) ∧ toOut r s.hp.nxt k l = some b ∧ get heap l = some o' ∧ renO (toOut r s.hp.nxt k) o' = some o ∧ ∃ L, ρl' l = some L ∧ ObjRep P ρ' w' L o ∧ o.ro = o'.ro) ∨
      ((∀ l, 1 ≤ l → l ≤ r.length + k → ¬ (p < l ∧ l ≤ r.length) → toOut r s.hp.nxt k l ≠ some b) ∧ get s.hp.heap b = some o) := by
    intro b o hb
    by_cases hex : ∃ l, 1 ≤ l ∧ l ≤ r.length + k ∧ ¬ (p < l ∧ l ≤ r.length) ∧ toOut r s.hp.nxt k l = some b
    · obtain ⟨l, h1, h2, h4, h3⟩ := hex
      obtain ⟨c, hc, q⟩ := k1 l h1 h2 h4
      rw [h3] at hc; cases hc
      obtain ⟨o', q1, q2⟩ := q o hb
      obtain ⟨L, hL, hob⟩ := st.rep.1 l o' q1
      obtain ⟨z1, z2⟩ := renO_rep H2 q2 hob
      exact .inl ⟨l, o', h1, h2, h4, h3, q1, q2, L, hL, z1, z2⟩
    · have hno : ∀ l, 1 ≤ l → l ≤ r.length + k → ¬ (p < l ∧ l ≤ r.length) → toOut r s.hp.nxt k l ≠ some b := fun l h1 h2 h4 h3 => hex ⟨l, h1, h2, h4, h3⟩
      exact .inr ⟨hno, (k2 b hno) ▸ hb⟩
  refine post ρ' a' w' ?_ hdef ⟨hle, fun n l h1 h2 => ?_, ⟨fun b o hb => ?_, fun b c o1 o2 L1 L2 hb hc hne hro hL1 hL2 hc1 hc2 => ?_⟩, ⟨st.fr.size, fun b hb hn => st.fr.same b hb ?_, st.fr.tape, st.fr.os, st.fr.output⟩, fun b o L hb hL hc hlt => ?_⟩
  · obtain ⟨z1, z2⟩ := renL_get _ _ htm
    refine ⟨z1.trans hrel'.1, fun j v' hj => ?_⟩
    obtain ⟨v, hv, hv'⟩ := z2 j v' hj
    obtain ⟨x, hx, hxr⟩ := hrel'.2 j v hv
    exact ⟨x, hx, renV_rel H2 hv' hxr⟩
  · simp only [ρ'] at h2
    split at h2
    · rename_i hh; exact hh
    · rw [h1] at h2; cases h2
  · rcases kind b o hb with ⟨l, o', a1, a2, a0, a3, a4, a5, L, a6, a7, _⟩ | ⟨a1, a2⟩
    · exact ⟨L, (H2 l b a3).trans a6, a7⟩
    · obtain ⟨L, hL, hob⟩ := hr.1 b o a2
      exact ⟨L, hle b L hL, hob.keep hle (fun hc => stay b o L a1 a2 hL hc)⟩
  · rcases kind b o1 hb with ⟨l, o', a1, a2, a0, a3, a4, a5, L, a6, a7, a8⟩ | ⟨a1, a2⟩
    · rw [H2 l b a3, a6] at hL1; cases hL1
      rcases kind c o2 hc with ⟨l', o'', b1, b2, b0, b3, b4, b5, L', b6, b7, b8⟩ | ⟨b1, b2⟩
      · rw [H2 l' c b3, b6] at hL2; cases hL2
        have hll : l ≠ l' := fun x => by subst x; rw [a3] at b3; cases b3; exact hne rfl
        exact st.rep.2 l l' o' o'' _ _ a4 b4 hll (by rw [← a8, ← b8]; exact hro) a6 b6 hc1 hc2
      · obtain ⟨L', hL', _⟩ := hr.1 c o2 b2
        rw [hle c L' hL'] at hL2; cases hL2
        exact apart l o' _ c o2 _ a4 a6 hc1 b1 b2 hL' hc2 (by rw [← a8]; exact hro)
    · obtain ⟨L, hL, _⟩ := hr.1 b o1 a2
      rw [hle b L hL] at hL1; cases hL1
      rcases kind c o2 hc with ⟨l', o'', b1, b2, b0, b3, b4, b5, L', b6, b7, b8⟩ | ⟨b1, b2⟩
      · rw [H2 l' c b3, b6] at hL2; cases hL2
        exact (apart l' o'' _ b o1 _ b4 b6 hc2 a1 a2 hL hc1 (by rw [← b8, Bool.and_comm]; exact hro)).symm
      · obtain ⟨L', hL', _⟩ := hr.1 c o2 b2
        rw [hle c L' hL'] at hL2; cases hL2
        exact hr.2 b c o1 o2 _ _ a2 b2 hne hro hL hL' hc1 hc2
  · rintro ⟨m, hm, o1, L1, y1, y2, y3, y4, y5⟩
    obtain ⟨hlt, c, hc, hcw⟩ := wrin m hm
    obtain ⟨b1, o2, z1, z2, z3, z33, z4, z5, z6⟩ := loc m o1 y1
    rw [hc] at z1; cases z1
    rw [z6] at y3
    exact hn ⟨c, mem_addAll.2 (.inl hcw), o2, L1, z4, z5.symm.trans y2, y3, y4, y5⟩
  · rcases kind b o hb with ⟨l, o', a1, a2, a0, a3, a4, a5, L', a6, a7, a8⟩ | ⟨a1, a2⟩
    · rw [H2 l b a3, a6] at hL; cases hL
      obtain ⟨m, o3, L3, y1, y2, y3, y4, y5, y6⟩ := st.own l o' _ a4 a6 hc hlt
      obtain ⟨b1, o4, z1, z2, z3, z33, z4, z5, z6⟩ := loc m o3 y1
      rw [z6] at y3
      refine ⟨b1, o4, L3, z4, (z5.symm.trans y2).trans a8.symm, y3, y4, y5, ?_⟩
      rcases y6 with rfl | y6
      · rw [a3] at z1; cases z1; exact .inl rfl
      · obtain ⟨_, c, hc', hcw⟩ := wrin m y6
        rw [hc'] at z1; cases z1
        exact .inr (mem_addAll.2 (.inl hcw))
    · obtain ⟨L', hL', _⟩ := hr.1 b o a2
      rw [hle b L' hL'] at hL; cases hL
      exact ⟨b, o, _, a2, rfl, hL', hc, rfl, .inl rfl⟩
end Go.Ev

/-
  THE EVALUATOR IS SOUND: what it says of code, and of a call, holds of the machine.
-/
set_option linter.unusedSimpArgs false
set_option linter.unusedVariables false
namespace Go.Ev

structure AllOk (E : Env) (n : Nat) : Prop where
  ex : ∀ c s e s', exec E n c s = some (e, s') → ExOk E.P c s e s'
  lp : ∀ c s e s', loopX E n c s = some (e, s') → LpOk E.P n c s e s'
  sq : ∀ all i rest s s', seqOps E n all i rest s = some s' → SqOk E.P all rest s s'
  op : ∀ tm op h v h', oper E n tm op h = some (v, h') → OpOk E.P tm op h v h'
  ca : ∀ f args h v h', callF E n f args h = some (v, h') → CaOk E.P f args h v h'

/-- The machine behind a scope into which one jumps. -/
def Exit.inner (P : Program) (body : Code) (Q : Exit → Act → World → Prop) : Exit → Act → World → Prop
  | .goto l, a, w => match findLabel body l with
    | some rest => rest.wp P (Exit.noGoto Q) a w
    | none => Q (.goto l) a w
  | e, a, w => Q e a w

theorem wp_scope_jump {P : Program} {Q : Exit → Act → World → Prop} {a : Act} {w : World} {c : Code} (h : c.wp P (Exit.inner P c Q) a w) : (Code.scope c).wp P Q a w := by
  intro b k cs
  obtain ⟨e, a₁, w₁, hq, harr⟩ := h b (.inScope c :: k) cs
  cases e with
  | normal => exact ⟨.normal, a₁, w₁, hq, .head step_scope (Steps.trans harr (.one step_inScope))⟩
  | exit id => exact ⟨.exit id, a₁, w₁, hq, fun k' hk => .head step_scope (harr k' (by simp [exitTo, hk]))⟩
  | ret => exact ⟨_, a₁, w₁, hq, .of_steps (.one step_scope) harr⟩
  | panic ch => exact ⟨_, a₁, w₁, hq, .of_steps (.one step_scope) harr⟩
  | outgrown => exact ⟨_, a₁, w₁, hq, .of_steps (.one step_scope) harr⟩
  | goto l =>
    simp only [Exit.inner] at hq
    cases hf : findLabel c l with
    | none =>
      rw [hf] at hq
      exact ⟨.goto l, a₁, w₁, hq, fun k' hk => .head step_scope (harr k' (by simp [gotoIn, hf, hk]))⟩
    | some rest =>
      rw [hf] at hq
      have hjump : Steps P (lone (b.at a (.code (.scope c) :: k)) cs w) (lone (b.at a₁ (.code rest :: .inScope c :: k)) cs w₁) := .head step_scope (harr _ (by simp [gotoIn, hf]))
      obtain ⟨e₂, a₂, w₂, hq₂, harr₂⟩ := hq b (.inScope c :: k) cs
      cases e₂ with
      | normal => exact ⟨.normal, a₂, w₂, hq₂, hjump.trans (Steps.trans harr₂ (.one step_inScope))⟩
      | exit id => exact ⟨.exit id, a₂, w₂, hq₂, fun k' hk => hjump.trans (harr₂ k' (by simp [exitTo, hk]))⟩
      | goto l => exact hq₂.elim
      | ret => exact ⟨_, a₂, w₂, hq₂, .of_steps hjump harr₂⟩
      | panic ch => exact ⟨_, a₂, w₂, hq₂, .of_steps hjump harr₂⟩
      | outgrown => exact ⟨_, a₂, w₂, hq₂, .of_steps hjump harr₂⟩

theorem exOf_then {next : Act → World → Prop} {Q : Exit → Act → World → Prop} {e : Ex} {a : Act} {w : World} (hn : e = .norm → next a w) (hq : e ≠ .norm → Q (exOf e) a w) : Exit.then next Q (exOf e) a w := by
  cases e with
  | norm => exact hn rfl
  | exit id => exact hq (by simp)
  | goto l => exact hq (by simp)
  | ret => exact hq (by simp)

theorem Post.step {P : Program} {ρ ρ' : Ren} {h h1 : Hp} {w w1 : World} {e : Ex} {s' : St} {Q : Exit → Act → World → Prop} (p : Post P ρ h w e s' Q) (st : Step P ρ h w ρ' h1 w1) (m : Mono h h1) (m' : Mono h1 s'.hp) : Post P ρ' h1 w1 e s' Q :=
  fun ρ'' a' w' hr hd hs => p ρ'' a' w' hr hd (st.trans hs m m')

theorem notTmp_ne {d : Nat} {v : Operand} (h : notTmp d v = true) : v ≠ .tmp d := by
  intro e; subst e; simp [notTmp] at h

theorem eval_put {a : Act} {d : Nat} {x : Value} {v : Operand} (h : v ≠ .tmp d) : (a.put (some d) x).eval v = a.eval v := by
  cases v with
  | tmp y =>
    have hy : d ≠ y := fun e => h (by rw [e])
    simp [Act.eval, Act.put, Array.getElem?_setIfInBounds_ne hy, Array.getD_eq_getD_getElem?]
  | const v => rfl
  | global g => rfl
  | func f => rfl

theorem eval_put_same {a : Act} {d : Nat} {x : Value} (h : d < a.tmps.size) : (a.put (some d) x).eval (.tmp d) = x := by
  simp [Act.eval, Act.put, h, Array.getD_eq_getD_getElem?]

theorem fuse_eq {l rest : List Oper} {t : TypeId} {x d e : Nat} {k v : Operand} (h : fuse l = some (t, x, k, v, d, e, rest)) : ∃ y1 p1 a1 y2 p2 a2 y3 p3 a3,
    l = ⟨some d, .mapEntry t (.tmp x) k, y1, p1, a1, none⟩ :: ⟨some e, .extract (.tmp d) 1, y2, p2, a2, none⟩ :: ⟨none, .entryStore t (.tmp x) (.tmp e) v, y3, p3, a3, none⟩ :: rest ∧ x ≠ d ∧ x ≠ e ∧ v ≠ .tmp d ∧ v ≠ .tmp e ∧ d ≠ e := by
  unfold fuse at h
  split at h
  · split at h
    · rename_i h1 h2 h3 h4 h5 h6 h7 h8 h9
      cases h
      have h1 := Nat.eq_of_beq_eq_true h1; subst h1
      have h2 := Nat.eq_of_beq_eq_true h2; subst h2
      have h3 := Nat.eq_of_beq_eq_true h3; subst h3
      have h4 := Nat.eq_of_beq_eq_true h4; subst h4
      refine ⟨_, _, _, _, _, _, _, _, _, rfl, fun e => ?_, fun e => ?_, notTmp_ne h7, notTmp_ne h8, fun e => ?_⟩
      · subst e; simp at h5
      · subst e; simp at h6
      · subst e; simp at h9
    · cases h
  · cases h

theorem wanted_none {all : Array Oper} {tm : Array Value} {d : Option Tmp} {op : Op} {y : TypeId} {p : String} {af : Array Edge} : Region.wanted ⟨d, op, y, p, af, none⟩ (yielded all tm) = true := by
  simp [Region.wanted]

theorem fused_ok {P : Program} {all l rest : List Oper} {s s1 s' : St} (h : fused P s l = some (s1, rest)) (o2 : SqOk P all rest s1 s') : SqOk P all l s s' := by
  unfold fused at h
  split at h
  · rename_i t x k v d e rest1 hf
    obtain ⟨y1, p1, a1, y2, p2, a2, y3, p3, a3, rfl, hxd, hxe, hvd, hve, hde⟩ := fuse_eq hf
    split at h
    · rename_i m kv vv dv ev ks agg vk hm hk hv hd he hmk
      split at h
      · rename_i z0 h1 hz hu
        cases h
        have m1 := (update_ok (ρ := fun _ => none) (w := default) hu).1
        refine ⟨m1.trans o2.mono, fun ho ρ a w Q pre post => ?_⟩
        have hM := (by
          have := evA_ok pre.glob (show evA s.tmps (.tmp x) = some m from hm) pre.rel
          exact this : relS ρ m (a.eval (.tmp x)))
        have hK := evA_ok pre.glob hk pre.rel
        have hV := evA_ok pre.glob hv pre.rel
        obtain ⟨X, S, w1, w2, r1, r2, st⟩ := entry_ok hu hmk hz pre.rep hM hK hV
        have hlen := pre.rel.1
        have hdl : d < a.tmps.size := by
          rw [nth_eq] at hd
          have := (List.getElem?_eq_some_iff.1 hd).1
          simp at hlen; omega
        have hel : e < (a.put (some d) (.tuple #[X, goInt S])).tmps.size := by
          rw [nth_eq] at he
          have := (List.getElem?_eq_some_iff.1 he).1
          simp at hlen; simp [Act.put]; omega
        let b1 := a.put (some d) (.tuple #[X, goInt S])
        let b2 := b1.put (some e) (goInt S)
        unfold wpList
        rw [wanted_none, if_pos rfl]
        left
        have e1 : (execOp a.eval ⟨some d, .mapEntry t (.tmp x) k, y1, p1, a1, none⟩).run P w = .ok (.value (.tuple #[X, goInt S])) w1 := by
          simp [execOp, r1]
        unfold Oper.wp
        rw [e1]
        show wpList P all.toArray Q _ b1 w1
        unfold wpList
        rw [wanted_none, if_pos rfl]
        left
        have e2 : (execOp b1.eval ⟨some e, .extract (.tmp d) 1, y2, p2, a2, none⟩).run P w1 = .ok (.value (goInt S)) w1 := by
          have : b1.eval (.tmp d) = .tuple #[X, goInt S] := eval_put_same hdl
          simp [execOp, this, Instr.extract]
        unfold Oper.wp
        rw [e2]
        show wpList P all.toArray Q _ b2 w1
        unfold wpList
        rw [wanted_none, if_pos rfl]
        left
        have e3 : (execOp b2.eval ⟨none, .entryStore t (.tmp x) (.tmp e) v, y3, p3, a3, none⟩).run P w1 = .ok .skip w2 := by
          have q1 : b2.eval (.tmp x) = a.eval (.tmp x) := (eval_put (by simpa using hxe)).trans (eval_put (by simpa using hxd))
          have q2 : b2.eval (.tmp e) = goInt S := eval_put_same hel
          have q3 : b2.eval v = a.eval v := (eval_put hve).trans (eval_put hvd)
          simp [execOp, q1, q2, q3, r2]
        unfold Oper.wp
        rw [e3]
        show wpList P all.toArray Q rest b2 w2
        have hrel : RelL ρ (setNth (setNth s.tmps d .top) e .top) b2.tmps.toList :=
          relL_put (v := .top) (some e) (relL_put (v := .top) (some d) pre.rel (.inl rfl)) (.inl rfl)
        exact o2.wp ho ρ b2 w2 Q (pre.next st m1 hrel (by rw [put_defers, put_defers]; exact pre.defers)) (post.step st m1 o2.mono)
      · cases h
    · cases h
  · cases h

theorem all_ok {E : Env} (H : EnvOk E) : ∀ n, AllOk E n := by
  intro n
  induction n using Nat.strongRecOn with
  | _ n IH =>
  cases n with
  | zero => exact ⟨fun c s e s' h => by simp [exec] at h, fun c s e s' h => by simp [loopX] at h, fun all i rest s s' h => by simp [seqOps] at h, fun tm op h v h' e => by simp [oper] at e, fun f args h v h' e => by simp [callF] at e⟩
  | succ n =>
    have I := IH n (by omega)
    -- loops
    have hlp : ∀ c s e s', loopX E (n + 1) c s = some (e, s') → LpOk E.P (n + 1) c s e s' := by
      intro c s e s' h
      simp only [loopX] at h
      split at h
      · rename_i s1 h1
        have o1 := I.ex _ _ _ _ h1
        have o2 := I.lp _ _ _ _ h
        refine ⟨o1.mono.trans o2.mono, fun ho ρ a w Q pre post => ?_⟩
        rw [rounds_succ]
        refine o1.wp (ho.of o2.mono) ρ a w _ pre (fun ρ' a' w' hr hd hs => ?_)
        exact o2.wp ho ρ' a' w' Q (pre.next hs o1.mono hr hd) (post.step hs o1.mono o2.mono)
      · rename_i hne
        have o1 := I.ex _ _ _ _ h
        refine ⟨o1.mono, fun ho ρ a w Q pre post => ?_⟩
        rw [rounds_succ]
        refine o1.wp ho ρ a w _ pre (fun ρ' a' w' hr hd hs => exOf_then (fun he => ?_) (fun _ => post ρ' a' w' hr hd hs))
        subst he
        exact (hne s' h).elim
    refine ⟨?_, hlp, ?_, ?_, ?_⟩
    ·
      intro c s e s' h
      unfold exec at h
      split at h
      · cases h; exact ⟨.refl _, fun ho ρ a w Q pre post => wp_skip (post ρ a w pre.rel pre.defers (.refl pre.rep rfl))⟩
      · cases h; exact ⟨.refl _, fun ho ρ a w Q pre post => wp_label (post ρ a w pre.rel pre.defers (.refl pre.rep rfl))⟩
      · rename_i id ops draw
        split at h
        · split at h
          · rename_i s1 h1
            cases h
            have o1 := I.sq _ _ _ _ _ h1
            exact ⟨o1.mono, fun ho ρ a w Q pre post => wp_region_list (by have := o1.wp ho ρ a w Q pre post; simpa using this)⟩
          · cases h
        · split at h
          · rename_i ancs hs rest hanc hnode
            simp only [fNat_eq] at h
            split at h
            · rename_i ds s1 hd
              split at h
              · rename_i hord
                cases h
                exact draw_region H.good (m := n) (s1 := { s with hp := { s.hp with hints := rest } }) (fun m' tm op hp v h' hm => (IH m' (by omega)).op tm op hp v h') hanc rfl rfl rfl rfl rfl rfl hd hord
              · cases h
            · cases h
          · cases h
      · rename_i c1 c2
        split at h
        · rename_i s1 h1
          simp only [fSt_eq] at h
          have o1 := I.ex _ _ _ _ h1
          have o2 := I.ex _ _ _ _ h
          refine ⟨o1.mono.trans o2.mono, fun ho ρ a w Q pre post => wp_seq ?_⟩
          refine o1.wp (ho.of o2.mono) ρ a w _ pre (fun ρ' a' w' hr hd hs => ?_)
          exact o2.wp ho ρ' a' w' Q (pre.next hs o1.mono hr hd) (post.step hs o1.mono o2.mono)
        · rename_i hne
          have o1 := I.ex _ _ _ _ h
          refine ⟨o1.mono, fun ho ρ a w Q pre post => wp_seq ?_⟩
          refine o1.wp ho ρ a w _ pre (fun ρ' a' w' hr hd hs => exOf_then (fun he => ?_) (fun _ => post ρ' a' w' hr hd hs))
          subst he
          exact (hne s' h).elim
      · rename_i x c1 c2
        split at h
        · rename_i v hv
          split at h
          · rename_i h1 hd
            obtain ⟨q, o⟩ := dec_qt hd
            have o1 := I.ex _ _ _ _ h
            refine ⟨q.mono.trans o1.mono, fun ho ρ a w Q pre post => ?_⟩
            have hb : a.eval x = .bool true := by
              have h2 := evA_ok pre.glob hv pre.rel
              rcases o (ho.of o1.mono) with rfl | rfl <;> (have := relS_den h2 (by simp); simp [den] at this; exact this.symm)
            have st : Step E.P ρ s.hp w ρ h1 w := .refl pre.rep q.heap
            exact wp_cond_true hb (o1.wp ho ρ a w Q (pre.next st q.mono pre.rel pre.defers) (post.step st q.mono o1.mono))
          · rename_i h1 hd
            obtain ⟨q, o⟩ := dec_qt hd
            have o1 := I.ex _ _ _ _ h
            refine ⟨q.mono.trans o1.mono, fun ho ρ a w Q pre post => ?_⟩
            have hb : a.eval x = .bool false := by
              have h2 := evA_ok pre.glob hv pre.rel
              rcases o (ho.of o1.mono) with rfl | rfl <;> (have := relS_den h2 (by simp); simp [den] at this; exact this.symm)
            have st : Step E.P ρ s.hp w ρ h1 w := .refl pre.rep q.heap
            exact wp_cond_false hb (o1.wp ho ρ a w Q (pre.next st q.mono pre.rel pre.defers) (post.step st q.mono o1.mono))
          · cases h
        · cases h
      · rename_i id body
        split at h
        · rename_i i s1 h1
          have o1 := I.ex _ _ _ _ h1
          split at h
          · rename_i hb
            cases h
            have hb := Nat.eq_of_beq_eq_true hb; subst hb
            refine ⟨o1.mono, fun ho ρ a w Q pre post => wp_block ?_⟩
            refine o1.wp ho ρ a w _ pre (fun ρ' a' w' hr hd hs => ?_)
            simp only [exOf, Exit.inBlock, if_true]
            exact post ρ' a' w' hr hd hs
          · rename_i hb
            cases h
            have hb : i ≠ id := by intro e; subst e; simp at hb
            refine ⟨o1.mono, fun ho ρ a w Q pre post => wp_block ?_⟩
            refine o1.wp ho ρ a w _ pre (fun ρ' a' w' hr hd hs => ?_)
            simp only [exOf, Exit.inBlock, hb, if_false]
            exact post ρ' a' w' hr hd hs
        · rename_i hne
          have o1 := I.ex _ _ _ _ h
          refine ⟨o1.mono, fun ho ρ a w Q pre post => wp_block ?_⟩
          refine o1.wp ho ρ a w _ pre (fun ρ' a' w' hr hd hs => ?_)
          have hp := post ρ' a' w' hr hd hs
          cases e with
          | exit i => exact (hne i s' h).elim
          | norm => exact hp
          | goto l => exact hp
          | ret => exact hp
      · rename_i body
        split at h
        · split at h
          · rename_i hle
            cases h
            refine ⟨⟨fun p hp => List.mem_cons_of_mem _ hp, by simpa [Nat.ble_eq] using hle, rfl, fun n hn => mem_addAll.2 (.inr hn)⟩, fun ho ρ a w Q pre post => ?_⟩
            have hl := H.loops _ _ _ _ (ho _ (List.mem_cons_self ..))
            exact hl ρ a w Q ⟨relL_mask _ pre.rel, pre.defers, pre.rep, pre.fresh, pre.glob⟩ (fun ρ' a' w' hr hd hs => post ρ' a' w' hr hd ⟨hs.le, hs.new, hs.rep, hs.fr, hs.own⟩)
          · cases h
        · split at h
          case h_2 => cases h
          split at h
          · rename_i hin hout
            cases h
            refine ⟨⟨fun p hp => List.mem_cons_of_mem _ hp, Nat.le_add_right _ _, rfl, fun n hn => mem_addAll.2 (.inr hn)⟩, fun ho => ?_⟩
            exact lpl_ok hin hout (H.loops _ _ _ _ (ho _ (List.mem_cons_self ..)))
          · cases h
        · rename_i r hh
          have o := I.lp body _ e s' h
          have q : Qt s.hp { s.hp with hints := r } := ⟨rfl, rfl, rfl, rfl, fun p hp => hp⟩
          refine ⟨q.mono.trans o.mono, fun ho ρ a w Q pre post => wp_loop_rounds n ?_⟩
          have st : Step E.P ρ s.hp w ρ { s.hp with hints := r } w := .refl pre.rep q.heap
          exact o.wp ho ρ a w Q (pre.next st q.mono pre.rel pre.defers) (post.step st q.mono o.mono)
        · have o := I.lp body s e s' h
          exact ⟨o.mono, fun ho ρ a w Q pre post => wp_loop_rounds n (o.wp ho ρ a w Q pre post)⟩
      · cases h; exact ⟨.refl _, fun ho ρ a w Q pre post => wp_exit (post ρ a w pre.rel pre.defers (.refl pre.rep rfl))⟩
      · cases h; exact ⟨.refl _, fun ho ρ a w Q pre post => wp_goto (post ρ a w pre.rel pre.defers (.refl pre.rep rfl))⟩
      · cases h; exact ⟨.refl _, fun ho ρ a w Q pre post => wp_ret (post ρ a w pre.rel pre.defers (.refl pre.rep rfl))⟩
      · rename_i body
        split at h
        · rename_i l s1 h1
          have o1 := I.ex _ _ _ _ h1
          split at h
          · rename_i rest hf
            split at h
            · cases h
            · rename_i hng
              have o2 := I.ex _ _ _ _ h
              refine ⟨o1.mono.trans o2.mono, fun ho ρ a w Q pre post => wp_scope_jump ?_⟩
              refine o1.wp (ho.of o2.mono) ρ a w _ pre (fun ρ' a' w' hr hd hs => ?_)
              simp only [exOf, Exit.inner, hf]
              refine o2.wp ho ρ' a' w' _ (pre.next hs o1.mono hr hd) (fun ρ'' a'' w'' hr' hd' hs' => ?_)
              have hp := post ρ'' a'' w'' hr' hd' (hs.trans hs' o1.mono o2.mono)
              cases e with
              | goto l' => exact (hng l' s' h).elim
              | norm => exact hp
              | exit i => exact hp
              | ret => exact hp
          · rename_i hf
            cases h
            refine ⟨o1.mono, fun ho ρ a w Q pre post => wp_scope_jump ?_⟩
            refine o1.wp ho ρ a w _ pre (fun ρ' a' w' hr hd hs => ?_)
            simp only [exOf, Exit.inner, hf]
            exact post ρ' a' w' hr hd hs
        · rename_i hne
          have o1 := I.ex _ _ _ _ h
          refine ⟨o1.mono, fun ho ρ a w Q pre post => wp_scope_jump ?_⟩
          refine o1.wp ho ρ a w _ pre (fun ρ' a' w' hr hd hs => ?_)
          have hp := post ρ' a' w' hr hd hs
          cases e with
          | goto l => exact (hne l s' h).elim
          | norm => exact hp
          | exit i => exact hp
          | ret => exact hp
      · cases h
    ·
      intro all i rest s s' h
      unfold seqOps at h
      split at h
      · cases h
        exact ⟨.refl _, fun ho ρ a w Q pre post => post ρ a w pre.rel pre.defers (.refl pre.rep rfl)⟩
      · rename_i o rest
        split at h
        · rename_i s1 rest1 hfu
          exact fused_ok hfu (I.sq _ _ _ _ _ h)
        split at h
        · rename_i hw
          split at h
          · rename_i v h1 hop
            split at h
            · rename_i v' h2 hset
              have o1 := I.op _ _ _ _ _ hop
              have o2 := I.sq _ _ _ _ _ h
              obtain ⟨qs, hsv⟩ := settle_ok hset
              refine ⟨o1.mono.trans (qs.mono.trans o2.mono), fun ho ρ a w Q pre post => ?_⟩
              have ho2 : Obs h2 := ho.of o2.mono
              unfold wpList
              rw [wanted_ok hw pre.rel, if_pos rfl]
              left
              refine o1.wp (ho2.of qs.mono) ρ a w pre o Q _ rfl (fun ρ' x w' hx hs => ?_)
              have hs2 : Step E.P ρ s.hp w ρ' h2 w' := step_settle hs qs o1.mono
              have m2 := o1.mono.trans qs.mono
              exact o2.wp ho ρ' _ w' Q (pre.next hs2 m2 (relL_put o.dst (pre.rel.mono hs.le) (hsv ho2 ρ' x hx)) (by rw [put_defers]; exact pre.defers)) (post.step hs2 m2 o2.mono)
            · cases h
          · cases h
        · rename_i hw
          have o2 := I.sq _ _ _ _ _ h
          refine ⟨o2.mono, fun ho ρ a w Q pre post => ?_⟩
          unfold wpList
          rw [wanted_ok hw pre.rel, if_neg (by simp)]
          exact o2.wp ho ρ _ w Q ⟨relL_put o.dst pre.rel (undef_rel ρ), by rw [put_defers]; exact pre.defers, pre.rep, pre.fresh, pre.glob⟩ post
        · cases h
    ·
      intro tm op h v h' e
      simp only [oper] at e
      split at e
      · cases e
      · rename_i hc
        refine ⟨?_, ?_⟩
        · exact (op1_ok (P := E.P) (ρ := fun _ => none) (w := default) (o := ⟨none, op, 0, "", #[], none⟩) e).1
        · intro ho ρ a w pre o Q next hop hn
          subst hop
          exact wp_of_run ((op1_ok (P := E.P) (ρ := ρ) (w := w) e).2 ho pre.fresh pre.rep pre.glob a pre.rel) hn
      · rename_i f args hc
        have oc := I.ca _ _ _ _ _ e
        refine ⟨oc.mono, fun ho ρ a w pre o Q next hop hn => ?_⟩
        subst hop
        obtain ⟨xs, hxs, hrun⟩ := callee_ok H.good pre.glob (w := w) hc pre.rel
        unfold Oper.wp
        rw [hrun]
        simp only [Oper.upon]
        refine (oc.wp ho ρ w pre.rep pre.fresh pre.glob xs hxs).mono (fun e' w' ⟨x, ρ', he, hv, hs⟩ => ?_)
        subst he
        exact hn ρ' x w' hv hs
    ·
      intro f args h v h' e
      simp only [callF] at e
      split at e
      · rename_i r hs
        cases e
        unfold specTry at hs
        split at hs
        · rename_i g hg
          exact H.spec f g hg args h v h' hs
        · cases hs
      · split at e
        · rename_i fn hf
          split at e
          · rename_i c hc
            split at e
            · rename_i hk
              have body : ∀ e0 s0, exec E n c ⟨args ++ List.replicate (fn.ntmps - args.length) (.tup []), h⟩ = some (e0, s0) → (e0 = .norm ∨ e0 = .ret) → ∀ l h1, resultsA E.P s0.tmps fn.results.toList s0.hp = some (l, h1) → CaOk E.P f args h (oneOrAll l) h1 := by
                intro e0 s0 h0 he0 l h1 hres
                have o1 := I.ex _ _ _ _ h0
                have hqr : ∀ (ρ : Ren) (a : Act) (w : World), RelL ρ s0.tmps a.tmps.toList → Qt s0.hp h1 ∧ (Obs h1 → HeapRep E.P ρ s0.hp.heap w → ∃ xs, denL ρ l = some xs ∧ (fn.results.toList.mapM (resVal a.tmps)).run E.P w = .ok xs w) := fun ρ a w hr => results_ok hr fn.results.toList s0.hp h1 l hres
                have q : Qt s0.hp h1 := resultsA_qt hres
                refine ⟨o1.mono.trans q.mono, fun ho ρ w hr hf' hG xs hxs => ?_⟩
                refine calls_of_wp hf hc ?_
                have hlen := denL_length _ _ hxs
                have hrel : RelL ρ (args ++ List.replicate (fn.ntmps - args.length) (.tup [])) (xs.toArray ++ Array.replicate (fn.ntmps - xs.toArray.size) undef).toList := by
                  have h1 : (xs.toArray ++ Array.replicate (fn.ntmps - xs.toArray.size) undef).toList = xs ++ List.replicate (fn.ntmps - args.length) undef := by simp [hlen]
                  rw [h1]
                  refine relL_append (denL.rel hxs) ⟨by simp, fun k v hk => ?_⟩
                  rw [List.getElem?_replicate] at hk ⊢
                  split at hk
                  · rename_i hlt; cases hk; rw [if_pos hlt]; exact ⟨undef, rfl, undef_rel ρ⟩
                  · cases hk
                refine o1.wp (ho.of q.mono) ρ _ w _ ⟨hrel, rfl, hr, hf', hG⟩ (fun ρ' a' w' hr' hd' hs' => ?_)
                obtain ⟨_, hres'⟩ := hqr ρ' a' w' hr'
                obtain ⟨ys, hy1, hy2⟩ := hres' ho hs'.rep
                have hrun := results_run hy2
                have hfin : Step E.P ρ h w ρ' h1 w' := hs'.trans (.refl hs'.rep q.heap) o1.mono q.mono
                rcases he0 with rfl | rfl
                · exact ⟨hd', _, hrun, _, ρ', rfl, oneOrAll_den hy1, hfin⟩
                · exact ⟨hd', _, hrun, _, ρ', rfl, oneOrAll_den hy1, hfin⟩
              split at e
              · rename_i s0 h0
                split at e
                · rename_i l h1 hres; cases e; exact body _ _ h0 (.inl rfl) _ _ hres
                · cases e
              · rename_i s0 h0
                split at e
                · rename_i l h1 hres; cases e; exact body _ _ h0 (.inr rfl) _ _ hres
                · cases e
              · cases e
            · cases e
          · cases e
        · cases e

end Go.Ev

/-
  A state as an instance of a template: names are changed, what is symbolic is compared by obligations.
-/
set_option linter.unusedSimpArgs false
set_option linter.unusedVariables false
namespace Go.Ev

/-- Where a template's new name comes from. -/
inductive Src where
  | nm (k : Nat)
  | nil (wd : Nat)

/-- Names from lo to hi are new. -/
structure CM where
  lo : Nat
  hi : Nat
  m : List (Nat × Src)

def CM.fresh (c : CM) (n : Nat) : Bool := match Nat.ble c.lo n with
  | true => Nat.blt n c.hi
  | false => false

/-- May the template's name n stand for the source's k? -/
def CM.same (c : CM) (n k : Nat) : Bool := match c.fresh n with
  | true => match get c.m n with
    | some (.nm k') => Nat.beq k' k
    | _ => false
  | false => Nat.beq n k

def nilLoc (wd : Nat) : Loc := ⟨0, 0, wd, 0, true⟩

/-- The template's names. -/
def CM.ren (c : CM) (ρ : Ren) : Ren := fun n => match c.fresh n with
  | true => match get c.m n with
    | some (.nm k) => ρ k
    | some (.nil wd) => some (nilLoc wd)
    | none => none
  | false => ρ n

theorem CM.same_ren {c : CM} {n k : Nat} (h : c.same n k = true) (ρ : Ren) : c.ren ρ n = ρ k := by
  unfold CM.same at h
  unfold CM.ren
  split at h
  · rename_i hf
    split at h
    · rename_i k' hg
      have := Nat.eq_of_beq_eq_true h
      subst this
      simp [hg]
    · cases h
  · rename_i hf
    have := Nat.eq_of_beq_eq_true h
    subst this
    rfl

mutual
def castVal (c : CM) : (src tmpl : AV) → Option (List Prop)
  | .int k n, .int k' n' => match decide (k = k'), decide (n = n') with
    | true, true => some []
    | _, _ => none
  | .sym k n, .int k' n' => match decide (k = k') with
    | true => some [n = n']
    | false => none
  | .int k n, .sym k' n' => match decide (k = k') with
    | true => some [n = n']
    | false => none
  | .sym k n, .sym k' n' => match decide (k = k') with
    | true => some [n = n']
    | false => none
  | .bool b, .bool b' => match b, b' with
    | true, true => some []
    | false, false => some []
    | _, _ => none
  | .bool b, .symb b' => some [b = b']
  | .symb b, .bool b' => some [b = b']
  | .symb b, .symb b' => some [b = b']
  | .nilp, .nilp => some []
  | .nils, .nils => some []
  | .nilm, .nilm => some []
  | .nilf, .nilf => some []
  | .nili, .nili => some []
  | .ptr k i j, .ptr n i' j' => match c.same n k with
    | true => some [i = i', j = j']
    | false => none
  | .xs wd k o l x, .xs wd' n o' l' x' => match c.same n k, Nat.beq wd wd' with
    | true, true => some [o = o', l = l', x = x']
    | _, _ => none
  | .xs wd k o l x, .ss wd' n o' l' x' => match c.same n k, Nat.beq wd wd' with
    | true, true => some [o = o', l = l', x = x']
    | _, _ => none
  | .ss wd k o l x, .ss wd' n o' l' x' => match c.same n k, Nat.beq wd wd' with
    | true, true => some [o = o', l = l', x = x']
    | _, _ => none
  | .nils, .ss wd' n o' l' x' => match c.fresh n, get c.m n with
    | true, some (.nil wd) => match Nat.beq wd wd' with
      | true => some [0 = o', 0 = l', x' = none]
      | false => none
    | _, _ => none
  | .map k, .map n => match c.same n k with
    | true => some []
    | false => none
  | .iface t v, .iface t' v' => match Nat.beq t t' with
    | true => castVal c v v'
    | false => none
  | .agg l, .agg l' => castVals c l l'
  | .tup l, .tup l' => castVals c l l'
  | .func f l m, .func f' l' m' => match decide (f = f'), castVals c l l', castVals c m m' with
    | true, some a, some b => some (a ++ b)
    | _, _, _ => none
  | _, _ => none
def castVals (c : CM) : (src tmpl : List AV) → Option (List Prop)
  | [], [] => some []
  | v :: l, v' :: l' => match castVal c v v', castVals c l l' with
    | some a, some b => some (a ++ b)
    | _, _ => none
  | _, _ => none
end

/-- .. where what is not asked for need not be known. -/
def castTop (c : CM) (src tmpl : AV) : Option (List Prop) := match tmpl with
  | .top => some []
  | v => castVal c src v

def castTops (c : CM) : (src tmpl : List AV) → Option (List Prop)
  | [], [] => some []
  | v :: l, v' :: l' => match castTop c v v', castTops c l l' with
    | some a, some b => some (a ++ b)
    | _, _ => none
  | _, _ => none

theorem all_append {a b : List Prop} (h : ∀ p ∈ a ++ b, p) : (∀ p ∈ a, p) ∧ ∀ p ∈ b, p := ⟨fun p hp => h p (List.mem_append_left _ hp), fun p hp => h p (List.mem_append_right _ hp)⟩

mutual
theorem castVal_ok {c : CM} {ρ : Ren} : ∀ (s t : AV) (ob : List Prop), castVal c s t = some ob → (∀ p ∈ ob, p) → ∀ x, den ρ s = some x → den (c.ren ρ) t = some x
  | s, t, ob, h, ho, x, hx => by
    unfold castVal at h
    split at h
    · split at h
      · rename_i k n k' n' a b
        have := of_decide_eq_true a; subst this
        have := of_decide_eq_true b; subst this
        simpa [den] using hx
      · cases h
    · split at h
      · rename_i k n k' n' _ a
        have := of_decide_eq_true a; subst this
        cases h
        have := ho _ (List.mem_cons_self ..); subst this
        simpa [den] using hx
      · cases h
    · split at h
      · rename_i k n k' n' _ a
        have := of_decide_eq_true a; subst this
        cases h
        have := ho _ (List.mem_cons_self ..); subst this
        simpa [den] using hx
      · cases h
    · split at h
      · rename_i k n k' n' _ a
        have := of_decide_eq_true a; subst this
        cases h
        have := ho _ (List.mem_cons_self ..); subst this
        simpa [den] using hx
      · cases h
    · split at h
      · simpa [den] using hx
      · simpa [den] using hx
      · cases h
    · cases h
      have := ho _ (List.mem_cons_self ..); subst this
      simpa [den] using hx
    · cases h
      have := ho _ (List.mem_cons_self ..); subst this
      simpa [den] using hx
    · cases h
      have := ho _ (List.mem_cons_self ..); subst this
      simpa [den] using hx
    · simpa [den] using hx
    · simpa [den] using hx
    · simpa [den] using hx
    · simpa [den] using hx
    · simpa [den] using hx
    · split at h
      · rename_i hs
        cases h
        have h1 := ho _ (List.mem_cons_self ..); subst h1
        have h2 := ho _ (List.mem_cons_of_mem _ (List.mem_cons_self ..)); subst h2
        simp only [den] at hx ⊢
        rw [CM.same_ren hs]; exact hx
      · cases h
    · split at h
      · rename_i hs hw
        cases h
        have hw := Nat.eq_of_beq_eq_true hw; subst hw
        have h1 := ho _ (List.mem_cons_self ..); subst h1
        have h2 := ho _ (List.mem_cons_of_mem _ (List.mem_cons_self ..)); subst h2
        have h3 := ho _ (List.mem_cons_of_mem _ (List.mem_cons_of_mem _ (List.mem_cons_self ..))); subst h3
        simp only [den] at hx ⊢
        rw [CM.same_ren hs]; exact hx
      · cases h
    · split at h
      · rename_i hs hw
        cases h
        have hw := Nat.eq_of_beq_eq_true hw; subst hw
        have h1 := ho _ (List.mem_cons_self ..); subst h1
        have h2 := ho _ (List.mem_cons_of_mem _ (List.mem_cons_self ..)); subst h2
        have h3 := ho _ (List.mem_cons_of_mem _ (List.mem_cons_of_mem _ (List.mem_cons_self ..))); subst h3
        simp only [den] at hx ⊢
        rw [CM.same_ren hs]
        split at hx
        · rename_i l hl
          split at hx
          · exact hx
          · cases hx
        · cases hx
      · cases h
    · split at h
      · rename_i hs hw
        cases h
        have hw := Nat.eq_of_beq_eq_true hw; subst hw
        have h1 := ho _ (List.mem_cons_self ..); subst h1
        have h2 := ho _ (List.mem_cons_of_mem _ (List.mem_cons_self ..)); subst h2
        have h3 := ho _ (List.mem_cons_of_mem _ (List.mem_cons_of_mem _ (List.mem_cons_self ..))); subst h3
        simp only [den] at hx ⊢
        rw [CM.same_ren hs]; exact hx
      · cases h
    · split at h
      · rename_i wd hf hg
        split at h
        · rename_i hw
          cases h
          have hw := Nat.eq_of_beq_eq_true hw; subst hw
          have h1 := ho _ (List.mem_cons_self ..)
          have h2 := ho _ (List.mem_cons_of_mem _ (List.mem_cons_self ..))
          have h3 := ho _ (List.mem_cons_of_mem _ (List.mem_cons_of_mem _ (List.mem_cons_self ..)))
          subst h1; subst h2; subst h3
          simp only [den] at hx ⊢
          have key : ∀ n, c.fresh n = true → get c.m n = some (.nil wd) → c.ren ρ n = some (nilLoc wd) := by
            intro n h1 h2; unfold CM.ren; rw [h1, h2]
          rw [key _ hf hg]
          simpa [nilLoc, Loc.slice, capOr] using hx
        · cases h
      · cases h
    · split at h
      · rename_i hs
        simp only [den] at hx ⊢
        rw [CM.same_ren hs]; exact hx
      · cases h
    · split at h
      · rename_i ht
        have ht := Nat.eq_of_beq_eq_true ht; subst ht
        simp only [den] at hx ⊢
        rename_i v v' 
        cases hv : den ρ _ with
        | none => rw [hv] at hx; cases hx
        | some y => rw [castVal_ok _ _ ob h ho y hv]; rw [hv] at hx; exact hx
      · cases h
    · simp only [den] at hx ⊢
      cases hv : denL ρ _ with
      | none => rw [hv] at hx; cases hx
      | some y => rw [castVals_ok _ _ ob h ho y hv]; rw [hv] at hx; exact hx
    · simp only [den] at hx ⊢
      cases hv : denL ρ _ with
      | none => rw [hv] at hx; cases hx
      | some y => rw [castVals_ok _ _ ob h ho y hv]; rw [hv] at hx; exact hx
    · split at h
      · rename_i hf ha hb
        have hf := of_decide_eq_true hf; subst hf
        cases h
        obtain ⟨o1, o2⟩ := all_append ho
        simp only [den] at hx ⊢
        cases hv : denL ρ _ with
        | none => rw [hv] at hx; cases hx
        | some y =>
          rw [hv] at hx
          cases hw : denL ρ _ with
          | none => rw [hw] at hx; cases hx
          | some z => rw [castVals_ok _ _ _ ha o1 y hv, castVals_ok _ _ _ hb o2 z hw]; rw [hw] at hx; exact hx
      · cases h
    · cases h
theorem castVals_ok {c : CM} {ρ : Ren} : ∀ (s t : List AV) (ob : List Prop), castVals c s t = some ob → (∀ p ∈ ob, p) → ∀ x, denL ρ s = some x → denL (c.ren ρ) t = some x
  | [], [], ob, h, ho, x, hx => by simpa [denL] using hx
  | v :: l, v' :: l', ob, h, ho, x, hx => by
    simp only [castVals] at h
    split at h
    · rename_i a b ha hb
      cases h
      obtain ⟨o1, o2⟩ := all_append ho
      simp only [denL] at hx ⊢
      cases hv : den ρ v with
      | none => rw [hv] at hx; cases hx
      | some y => cases hl : denL ρ l with
        | none => rw [hv, hl] at hx; cases hx
        | some ys =>
          rw [castVal_ok v v' a ha o1 y hv, castVals_ok l l' b hb o2 ys hl]
          rw [hv, hl] at hx; exact hx
    · cases h
  | [], _ :: _, ob, h, _, _, _ => by simp [castVals] at h
  | _ :: _, [], ob, h, _, _, _ => by simp [castVals] at h
end

theorem castTop_ok {c : CM} {ρ : Ren} {s t : AV} {ob : List Prop} (h : castTop c s t = some ob) (ho : ∀ p ∈ ob, p) {x : Value} (hx : relS ρ s x) : relS (c.ren ρ) t x := by
  unfold castTop at h
  split at h
  · exact .inl rfl
  · rcases hx with rfl | hx
    · simp [castVal] at h
    · exact .inr (castVal_ok s _ ob h ho x hx)

theorem castTops_ok {c : CM} {ρ : Ren} : ∀ (s t : List AV) (ob : List Prop), castTops c s t = some ob → (∀ p ∈ ob, p) → s.length = t.length ∧ ∀ (j : Nat) v, t[j]? = some v → ∃ u, s[j]? = some u ∧ ∀ x, relS ρ u x → relS (c.ren ρ) v x
  | [], [], ob, h, ho => ⟨rfl, fun j v hj => by simp at hj⟩
  | v :: l, v' :: l', ob, h, ho => by
    simp only [castTops] at h
    split at h
    · rename_i a b ha hb
      cases h
      obtain ⟨o1, o2⟩ := all_append ho
      obtain ⟨q1, q2⟩ := castTops_ok l l' b hb o2
      refine ⟨by simp [q1], fun j u hj => ?_⟩
      cases j with
      | zero => simp at hj; subst hj; exact ⟨v, rfl, fun x hx => castTop_ok ha o1 hx⟩
      | succ j => exact q2 j u (by simpa using hj)
    · cases h
  | [], _ :: _, ob, h, _ => by simp [castTops] at h
  | _ :: _, [], ob, h, _ => by simp [castTops] at h


/-! ### objects -/
/-- Row by row: the template's cells, and the source's. -/
def rowOb : (sh : List CK) → (j : Nat) → (src tmpl : Nat → AV) → Prop
  | [], _, _, _ => True
  | .int k :: r, j, f, g => g j = .sym k (avInt (f j)) ∧ rowOb r (j + 1) f g
  | .bool :: r, j, f, g => g j = .symb (avBool (f j)) ∧ rowOb r (j + 1) f g
  | .val :: _, _, _, _ => False

theorem rowOb_get {f g : Nat → AV} : ∀ (sh : List CK) (j0 : Nat), rowOb sh j0 f g → ∀ (j : Nat) k, sh[j]? = some k → (∃ i, k = .int i ∧ g (j0 + j) = .sym i (avInt (f (j0 + j)))) ∨ (k = .bool ∧ g (j0 + j) = .symb (avBool (f (j0 + j))))
  | [], _, _, j, k, h => by simp at h
  | .int i :: r, j0, ho, 0, k, h => by simp at h; subst h; exact .inl ⟨i, rfl, ho.1⟩
  | .bool :: r, j0, ho, 0, k, h => by simp at h; subst h; exact .inr ⟨rfl, ho.1⟩
  | .val :: r, j0, ho, 0, k, h => ho.elim
  | .int i :: r, j0, ho, j + 1, k, h => by
    have := rowOb_get r (j0 + 1) ho.2 j k (by simpa using h)
    rw [show j0 + 1 + j = j0 + (j + 1) by omega] at this; exact this
  | .bool :: r, j0, ho, j + 1, k, h => by
    have := rowOb_get r (j0 + 1) ho.2 j k (by simpa using h)
    rw [show j0 + 1 + j = j0 + (j + 1) by omega] at this; exact this
  | .val :: r, j0, ho, j + 1, k, h => ho.elim

theorem rowOb_cell {ρ ρ' : Ren} {f g : Nat → AV} {sh : List CK} (h : rowOb sh 0 f g) {j : Nat} {k : CK} (hj : sh[j]? = some k) (hk : kindOk k (f j)) {x : Value} (hx : den ρ (f j) = some x) : kindOk k (g j) ∧ den ρ' (g j) = some x := by
  have := rowOb_get sh 0 h j k hj
  rw [Nat.zero_add] at this
  rcases this with ⟨i, rfl, e⟩ | ⟨rfl, e⟩
  · obtain ⟨n, hn | hn⟩ := hk <;> rw [hn] at e hx <;> rw [e] <;> exact ⟨⟨_, .inr rfl⟩, by simpa [den, avInt] using hx⟩
  · obtain ⟨n, hn | hn⟩ := hk <;> rw [hn] at e hx <;> rw [e] <;> exact ⟨⟨_, .inr rfl⟩, by simpa [den, avBool] using hx⟩

/-- A cell that holds any value: the template's, and the source's. -/
def valV (c : CM) (s t : AV) : Prop := t.oneCell = true ∧ ∀ (ρ : Ren) x, den ρ s = some x → den (c.ren ρ) t = some x

/-- .. where cells may hold any value. -/
def rowV (c : CM) : (sh : List CK) → (j : Nat) → (src tmpl : Nat → AV) → Prop
  | [], _, _, _ => True
  | .int k :: r, j, f, g => g j = .sym k (avInt (f j)) ∧ rowV c r (j + 1) f g
  | .bool :: r, j, f, g => g j = .symb (avBool (f j)) ∧ rowV c r (j + 1) f g
  | .val :: r, j, f, g => valV c (f j) (g j) ∧ rowV c r (j + 1) f g

theorem rowV_get {c : CM} {f g : Nat → AV} : ∀ (sh : List CK) (j0 : Nat), rowV c sh j0 f g → ∀ (j : Nat) k, sh[j]? = some k → (∃ i, k = .int i ∧ g (j0 + j) = .sym i (avInt (f (j0 + j)))) ∨ (k = .bool ∧ g (j0 + j) = .symb (avBool (f (j0 + j)))) ∨ (k = .val ∧ valV c (f (j0 + j)) (g (j0 + j)))
  | [], _, _, j, k, h => by simp at h
  | .int i :: r, j0, ho, 0, k, h => by simp at h; subst h; exact .inl ⟨i, rfl, ho.1⟩
  | .bool :: r, j0, ho, 0, k, h => by simp at h; subst h; exact .inr (.inl ⟨rfl, ho.1⟩)
  | .val :: r, j0, ho, 0, k, h => by simp at h; subst h; exact .inr (.inr ⟨rfl, ho.1⟩)
  | .int i :: r, j0, ho, j + 1, k, h => by
    have := rowV_get r (j0 + 1) ho.2 j k (by simpa using h)
    rw [show j0 + 1 + j = j0 + (j + 1) by omega] at this; exact this
  | .bool :: r, j0, ho, j + 1, k, h => by
    have := rowV_get r (j0 + 1) ho.2 j k (by simpa using h)
    rw [show j0 + 1 + j = j0 + (j + 1) by omega] at this; exact this
  | .val :: r, j0, ho, j + 1, k, h => by
    have := rowV_get r (j0 + 1) ho.2 j k (by simpa using h)
    rw [show j0 + 1 + j = j0 + (j + 1) by omega] at this; exact this

theorem rowV_cell {c : CM} {ρ : Ren} {f g : Nat → AV} {sh : List CK} (h : rowV c sh 0 f g) {j : Nat} {k : CK} (hj : sh[j]? = some k) (hk : kindOk k (f j)) {x : Value} (hx : den ρ (f j) = some x) : kindOk k (g j) ∧ den (c.ren ρ) (g j) = some x := by
  have := rowV_get sh 0 h j k hj
  rw [Nat.zero_add] at this
  rcases this with ⟨i, rfl, e⟩ | ⟨rfl, e⟩ | ⟨rfl, e1, e2⟩
  · obtain ⟨n, hn | hn⟩ := hk <;> rw [hn] at e hx <;> rw [e] <;> exact ⟨⟨_, .inr rfl⟩, by simpa [den, avInt] using hx⟩
  · obtain ⟨n, hn | hn⟩ := hk <;> rw [hn] at e hx <;> rw [e] <;> exact ⟨⟨_, .inr rfl⟩, by simpa [den, avBool] using hx⟩
  · exact ⟨e1, e2 ρ x hx⟩

theorem rowOb_V (c : CM) {f g : Nat → AV} : ∀ (sh : List CK) (j : Nat), rowOb sh j f g → rowV c sh j f g
  | [], _, _ => trivial
  | .int _ :: r, j, h => ⟨h.1, rowOb_V c r (j + 1) h.2⟩
  | .bool :: r, j, h => ⟨h.1, rowOb_V c r (j + 1) h.2⟩
  | .val :: _, _, h => h.elim

/-- Explicit cells, as rows. -/
def listRow (wd : Nat) (l : List AV) (i j : Nat) : AV := match nth l (i * wd + j) with
  | some v => v
  | none => .top

/-- The kind of an explicit cell. -/
def kindB : CK → AV → Bool
  | .int k, .int k' _ => decide (k = k')
  | .int k, .sym k' _ => decide (k = k')
  | .bool, .bool _ => true
  | .bool, .symb _ => true
  | .val, v => v.oneCell
  | _, _ => false

def kindsB (wd : Nat) (l : List AV) (i : Nat) : (sh : List CK) → (j : Nat) → Bool
  | [], _ => true
  | k :: r, j => match kindB k (listRow wd l i j) with
    | true => kindsB wd l i r (j + 1)
    | false => false

def rowsB (wd : Nat) (l : List AV) (sh : List CK) : Nat → Bool
  | 0 => true
  | n + 1 => match kindsB wd l n sh 0 with
    | true => rowsB wd l sh n
    | false => false

theorem kindB_ok {k : CK} {v : AV} (h : kindB k v = true) : kindOk k v ∧ ∀ (ρ : Ren) x, relS ρ v x → den ρ v = some x := by
  unfold kindB at h
  split at h
  · have := of_decide_eq_true h; subst this
    exact ⟨⟨_, .inl rfl⟩, fun ρ x hx => by rcases hx with hx | hx; cases hx; exact hx⟩
  · have := of_decide_eq_true h; subst this
    exact ⟨⟨_, .inr rfl⟩, fun ρ x hx => by rcases hx with hx | hx; cases hx; exact hx⟩
  · exact ⟨⟨_, .inl rfl⟩, fun ρ x hx => by rcases hx with hx | hx; cases hx; exact hx⟩
  · exact ⟨⟨_, .inr rfl⟩, fun ρ x hx => by rcases hx with hx | hx; cases hx; exact hx⟩
  · refine ⟨h, fun ρ x hx => ?_⟩
    rcases hx with rfl | hx
    · simp [AV.oneCell] at h
    · exact hx
  · cases h

theorem kindsB_get {wd : Nat} {l : List AV} {i : Nat} : ∀ (sh : List CK) (j0 : Nat), kindsB wd l i sh j0 = true → ∀ (j : Nat) k, sh[j]? = some k → kindB k (listRow wd l i (j0 + j)) = true
  | [], _, _, j, k, h => by simp at h
  | k0 :: r, j0, ho, j, k, h => by
    simp only [kindsB] at ho
    split at ho
    · rename_i hk
      cases j with
      | zero => simp at h; subst h; exact hk
      | succ j =>
        have := kindsB_get r (j0 + 1) ho j k (by simpa using h)
        rw [show j0 + 1 + j = j0 + (j + 1) by omega] at this; exact this
    · cases ho

theorem rowsB_get {wd : Nat} {l : List AV} {sh : List CK} : ∀ (n : Nat), rowsB wd l sh n = true → ∀ i, i < n → ∀ (j : Nat) k, sh[j]? = some k → kindB k (listRow wd l i j) = true
  | 0, _, i, hi, _, _, _ => by omega
  | n + 1, h, i, hi, j, k, hj => by
    simp only [rowsB] at h
    split at h
    · rename_i hk
      by_cases e : i = n
      · subst e; have := kindsB_get sh 0 hk j k hj; rwa [Nat.zero_add] at this
      · exact rowsB_get n h i (by omega) j k hj
    · cases h

def castObj (c : CM) (src tmpl : AO) : Option (List Prop) := match src, tmpl with
  | .cells wd l, .cells wd' l' => match Nat.beq wd wd' with
    | true => castTops c l l'
    | false => none
  | .cells wd l, .arr wd' sh ro len f => match Nat.beq wd wd', Nat.beq sh.length wd, ro, Nat.ble 1 wd with
    | true, true, false, true => match Nat.beq (l.length / wd * wd) l.length, rowsB wd l sh (l.length / wd) with
      | true, true => match plainSh sh with
        | true => some [len = l.length / wd, ∀ i, i < len → rowOb sh 0 (listRow wd l i) (f i)]
        | false => some [len = l.length / wd, ∀ i, i < len → rowV c sh 0 (listRow wd l i) (f i)]
      | _, _ => none
    | _, _, _, _ => none
  | .arr wd sh ro len f, .arr wd' sh' ro' len' f' => match Nat.beq wd wd', shBeq sh sh' with
    | true, true => match plainSh sh with
      | true => some [ro = ro', len' ≤ len, (f' = f ∧ plainSh sh = true) ∨ ∀ i, i < len' → rowOb sh 0 (f i) (f' i)]
      | false => some [ro = ro', len' ≤ len, ∀ i, i < len' → rowV c sh 0 (f i) (f' i)]
    | _, _ => none
  | .map t f, .map t' f' => match Nat.beq t t' with
    | true => some [∀ k, f k = f' k]
    | false => none
  | _, _ => none

theorem castObj_ok {P : Program} {c : CM} {ρ : Ren} {w : World} {l : Loc} {s t : AO} {ob : List Prop} (h : castObj c s t = some ob) (ho : ∀ p ∈ ob, p) (hr : ObjRep P ρ w l s) : ObjRep P (c.ren ρ) w l t ∧ t.ro = s.ro := by
  unfold castObj at h
  split at h
  · rename_i wd cs wd' cs'
    split at h
    · rename_i hw
      have hw := Nat.eq_of_beq_eq_true hw; subst hw
      obtain ⟨q1, q2⟩ := castTops_ok (ρ := ρ) _ _ ob h ho
      obtain ⟨h0, h1, h2, cc, ty, fr, hb, hf, hc, hc2, hv⟩ := hr
      refine ⟨⟨h0, h1, h2, cc, ty, fr, hb, hf, by omega, hc2, fun j v hj => ?_⟩, rfl⟩
      obtain ⟨u, hu, hux⟩ := q2 j v hj
      obtain ⟨x, hx, hrx⟩ := hv j u hu
      exact ⟨x, hx, hux x hrx⟩
    · cases h
  · rename_i wd cs wd' sh ro len f
    split at h
    · rename_i hw hsh hw1
      split at h
      · rename_i hdiv hrows
        have hob : ob.length = 2 ∧ ob[0]? = some (len = cs.length / wd) ∧ ∀ p, ob[1]? = some p → p → ∀ i, i < len → rowV c sh 0 (listRow wd cs i) (f i) := by
          split at h
          · cases h; exact ⟨rfl, rfl, fun p hp hq => by cases hp; exact fun i hi => rowOb_V c sh 0 (hq i hi)⟩
          · cases h; exact ⟨rfl, rfl, fun p hp hq => by cases hp; exact hq⟩
        obtain ⟨hl2, hob0, hob1⟩ := hob
        have hw := Nat.eq_of_beq_eq_true hw; subst hw
        have hsh := Nat.eq_of_beq_eq_true hsh
        have hdiv := Nat.eq_of_beq_eq_true hdiv
        have hw1 : 1 ≤ wd := by simpa [Nat.ble_eq] using hw1
        have o1 := ho _ (List.mem_of_getElem? hob0)
        have o2 : ∀ i, i < len → rowV c sh 0 (listRow wd cs i) (f i) := by
          obtain ⟨p, hp⟩ : ∃ p, ob[1]? = some p := ⟨ob[1]'(by omega), List.getElem?_eq_getElem (by omega)⟩
          exact hob1 p hp (ho _ (List.mem_of_getElem? hp))
        obtain ⟨h0, h1, h2, cc, ty, fr, hb, hf, hc, hc2, hv⟩ := hr
        have hlen : len ≤ l.cap := by
          have : len * wd ≤ l.cap * wd := by rw [o1, hdiv]; exact hc
          exact Nat.le_of_mul_le_mul_right this hw1
        refine ⟨⟨h2, hsh, hlen, fun e => (by rw [h0] at e; cases e), fun _ => ⟨cc, ty, fr, hb, fun _ => hf, hc2, fun i hi j k hj => ?_⟩⟩, rfl⟩
        have hkb := rowsB_get _ hrows i (by omega) j k hj
        obtain ⟨kk, kd⟩ := kindB_ok hkb
        have hjw : j < wd := by have := (List.getElem?_eq_some_iff.1 hj).1; omega
        have hil : i * wd + j < cs.length := by
          have : (i + 1) * wd ≤ len * wd := Nat.mul_le_mul_right wd hi
          rw [Nat.succ_mul] at this
          rw [o1, hdiv] at this
          omega
        have hcell : cs[i * wd + j]? = some (listRow wd cs i j) := by
          simp only [listRow, nth_eq]
          rw [List.getElem?_eq_getElem hil]
        obtain ⟨x, hx, hrx⟩ := hv _ _ hcell
        have hd := kd ρ x hrx
        obtain ⟨k1, k2⟩ := rowV_cell (ρ := ρ) (o2 i hi) hj kk hd
        exact ⟨k1, x, by rw [Nat.add_assoc]; exact hx, k2⟩
      · cases h
    · cases h
  · rename_i wd sh ro len f wd' sh' ro' len' f'
    split at h
    · rename_i hw hs
      have hob : ob.length = 3 ∧ ob[0]? = some (ro = ro') ∧ ob[1]? = some (len' ≤ len) ∧ ∀ p, ob[2]? = some p → p → (f' = f ∧ plainSh sh = true) ∨ ∀ i, i < len' → rowV c sh 0 (f i) (f' i) := by
        split at h
        · cases h; exact ⟨rfl, rfl, rfl, fun p hp hq => by cases hp; exact hq.imp id (fun q i hi => rowOb_V c sh 0 (q i hi))⟩
        · cases h; exact ⟨rfl, rfl, rfl, fun p hp hq => by cases hp; exact .inr hq⟩
      obtain ⟨hl3, hob0, hob1, hob2⟩ := hob
      have hw := Nat.eq_of_beq_eq_true hw; subst hw
      have hs := shBeq_eq hs; subst hs
      have hro := ho _ (List.mem_of_getElem? hob0)
      subst hro
      have o1 := ho _ (List.mem_of_getElem? hob1)
      have o2 : (f' = f ∧ plainSh sh = true) ∨ ∀ i, i < len' → rowV c sh 0 (f i) (f' i) := by
        obtain ⟨p, hp⟩ : ∃ p, ob[2]? = some p := ⟨ob[2]'(by omega), List.getElem?_eq_getElem (by omega)⟩
        exact hob2 p hp (ho _ (List.mem_of_getElem? hp))
      obtain ⟨h1, h2, h3, h4, h5⟩ := hr
      refine ⟨⟨h1, h2, Nat.le_trans o1 h3, h4, fun hc => ?_⟩, rfl⟩
      obtain ⟨cc, ty, fr, hb, hf, hc2, hv⟩ := h5 hc
      refine ⟨cc, ty, fr, hb, hf, hc2, fun i hi j k hj => ?_⟩
      obtain ⟨kk, x, hx, hd⟩ := hv i (by omega) j k hj
      rcases o2 with ⟨rfl, hp⟩ | o2
      · refine ⟨kk, x, hx, ?_⟩
        rcases plainSh_get sh hp j k hj with ⟨q, rfl⟩ | rfl
        · obtain ⟨n, hn | hn⟩ := kk <;> rw [hn] at hd ⊢ <;> simpa [den] using hd
        · obtain ⟨n, hn | hn⟩ := kk <;> rw [hn] at hd ⊢ <;> simpa [den] using hd
      · obtain ⟨k1, k2⟩ := rowV_cell (ρ := ρ) (o2 i hi) hj kk hd
        exact ⟨k1, x, hx, k2⟩
    · cases h
  · rename_i t f t' f'
    split at h
    · rename_i ht
      cases h
      have ht := Nat.eq_of_beq_eq_true ht; subst ht
      have o1 := ho _ (List.mem_cons_self ..)
      obtain ⟨h0, h1, ks, agg, vk, hk, es, clock, hb, hbo, hm⟩ := hr
      refine ⟨⟨h0, h1, ks, agg, vk, hk, es, clock, hb, hbo, ?_⟩, rfl⟩
      have : f = f' := funext o1
      rw [← this]; exact hm
    · cases h
  · cases h

/-! ### heaps -/
def castNil (wd : Nat) : AO → Option (List Prop)
  | .arr wd' sh false len _ => match Nat.beq wd wd', Nat.beq sh.length wd with
    | true, true => some [len = 0]
    | _, _ => none
  | _ => none

def castEntry (c : CM) (h : List (Nat × AO)) (n : Nat) (o : AO) : Option (List Prop) := match c.fresh n with
  | true => match get c.m n with
    | some (.nm k) => match get h k with
      | some o1 => castObj c o1 o
      | none => none
    | some (.nil wd) => castNil wd o
    | none => none
  | false => match get h n with
    | some o1 => castObj c o1 o
    | none => none

def castHeap (c : CM) (h : List (Nat × AO)) : List (Nat × AO) → Option (List Prop)
  | [] => some []
  | (n, o) :: r => match castEntry c h n o, castHeap c h r with
    | some a, some b => some (a ++ b)
    | _, _ => none

/-- The source's name, if any. -/
def CM.src (c : CM) (n : Nat) : Option Nat := match c.fresh n with
  | true => match get c.m n with
    | some (.nm k) => some k
    | _ => none
  | false => some n

/-- No source twice. -/
def apartB (c : CM) : (seen : List Nat) → List (Nat × AO) → Bool
  | _, [] => true
  | seen, (n, _) :: r => match c.src n with
    | some k => match mem k seen with
      | true => false
      | false => apartB c (k :: seen) r
    | none => apartB c seen r

theorem castHeap_get {c : CM} {h : List (Nat × AO)} : ∀ (l : List (Nat × AO)) (ob : List Prop), castHeap c h l = some ob → (∀ p ∈ ob, p) → ∀ n o, get l n = some o → ∃ a, castEntry c h n o = some a ∧ ∀ p ∈ a, p
  | [], _, _, _, n, o, hn => by simp [get] at hn
  | (m, o') :: r, ob, e, ho, n, o, hn => by
    simp only [castHeap] at e
    split at e
    · rename_i a b ha hb
      cases e
      obtain ⟨o1, o2⟩ := all_append ho
      simp only [get] at hn
      split at hn
      · rename_i hm
        have hm := Nat.eq_of_beq_eq_true hm; subst hm
        cases hn
        exact ⟨a, ha, o1⟩
      · exact castHeap_get r b hb o2 n o hn
    · cases e

theorem apartB_get {c : CM} : ∀ (l : List (Nat × AO)) (seen : List Nat), apartB c seen l = true → (∀ n o k, get l n = some o → c.src n = some k → k ∉ seen) ∧ ∀ n m o o' k, get l n = some o → get l m = some o' → n ≠ m → c.src n = some k → c.src m ≠ some k
  | [], _, _ => ⟨fun n o k h => by simp [get] at h, fun n m o o' k h => by simp [get] at h⟩
  | (q, x) :: r, seen, h => by
    simp only [apartB] at h
    have hget : ∀ n o, get ((q, x) :: r) n = some o → n = q ∨ (n ≠ q ∧ get r n = some o) := by
      intro n o hn
      simp only [get] at hn
      split at hn
      · rename_i hm; exact .inl (Nat.eq_of_beq_eq_true hm).symm
      · rename_i hm
        refine .inr ⟨fun e => by subst e; simp at hm, hn⟩
    split at h
    · rename_i k0 hk0
      split at h
      · cases h
      · rename_i hmem
        have hmem : k0 ∉ seen := fun e => by rw [(mem_iff k0 seen).2 e] at hmem; cases hmem
        obtain ⟨i1, i2⟩ := apartB_get r (k0 :: seen) h
        refine ⟨fun n o k hn hk => ?_, fun n m o o' k hn hm hne hk hk' => ?_⟩
        · rcases hget n o hn with rfl | ⟨_, hn⟩
          · rw [hk0] at hk; cases hk; exact hmem
          · exact fun e => i1 n o k hn hk (List.mem_cons_of_mem _ e)
        · rcases hget n o hn with en | ⟨_, hn2⟩
          · rcases hget m o' hm with em | ⟨_, hm2⟩
            · exact hne (en.trans em.symm)
            · rw [en, hk0] at hk; cases hk
              exact i1 m o' _ hm2 hk' (List.mem_cons_self ..)
          · rcases hget m o' hm with em | ⟨_, hm2⟩
            · rw [em, hk0] at hk'; cases hk'
              exact i1 n o _ hn2 hk (List.mem_cons_self ..)
            · exact i2 n m o o' k hn2 hm2 hne hk hk'
    · rename_i hk0
      obtain ⟨i1, i2⟩ := apartB_get r seen h
      refine ⟨fun n o k hn hk => ?_, fun n m o o' k hn hm hne hk hk' => ?_⟩
      · rcases hget n o hn with rfl | ⟨_, hn⟩
        · rw [hk0] at hk; cases hk
        · exact i1 n o k hn hk
      · rcases hget n o hn with en | ⟨_, hn2⟩
        · rw [en, hk0] at hk; cases hk
        · rcases hget m o' hm with em | ⟨_, hm2⟩
          · rw [em, hk0] at hk'; cases hk'
          · exact i2 n m o o' k hn2 hm2 hne hk hk'


/-! ### states -/
def wrOk (h0 : List (Nat × AO)) (wr : List Nat) : List Nat → Bool
  | [] => true
  | n :: r => match get h0 n with
    | none => wrOk h0 wr r
    | some _ => match mem n wr with
      | true => wrOk h0 wr r
      | false => false

def oldOk (c : CM) (wr : List Nat) : List (Nat × AO) → Bool
  | [] => true
  | (n, _) :: r => match c.fresh n, get c.m n with
    | true, some (.nm k) => match c.fresh k, mem k wr with
      | false, false => false
      | _, _ => oldOk c wr r
    | _, _ => oldOk c wr r

def namesIn (lo hi : Nat) : List (Nat × Src) → Bool
  | [] => true
  | (n, _) :: r => match Nat.ble lo n, Nat.blt n hi with
    | true, true => namesIn lo hi r
    | _, _ => false

def subB (wr : List Nat) : List Nat → Bool
  | [] => true
  | n :: r => match mem n wr with
    | true => subB wr r
    | false => false

theorem subB_get {wr : List Nat} : ∀ (l : List Nat), subB wr l = true → ∀ n ∈ l, n ∈ wr
  | [], _, n, h => by cases h
  | k :: r, h, n, hn => by
    simp only [subB] at h
    split at h
    · rename_i hm
      rcases List.mem_cons.1 hn with rfl | hn
      · exact (mem_iff n wr).1 hm
      · exact subB_get r h n hn
    · cases h

def castSt (h0 : Hp) (m : List (Nat × Src)) (s T : St) : Option (List Prop) :=
  match subB T.hp.wr h0.wr, Nat.beq T.hp.hi h0.hi, Nat.ble h0.nxt T.hp.nxt, Nat.ble s.hp.nxt h0.hi, namesIn h0.nxt T.hp.nxt m, wrOk h0.heap T.hp.wr s.hp.wr, oldOk ⟨h0.nxt, h0.hi, m⟩ T.hp.wr T.hp.heap, apartB ⟨h0.nxt, h0.hi, m⟩ [] T.hp.heap with
  | true, true, true, true, true, true, true, true => match castTops ⟨h0.nxt, h0.hi, m⟩ s.tmps T.tmps, castHeap ⟨h0.nxt, h0.hi, m⟩ s.hp.heap T.hp.heap with
    | some a, some b => some (a ++ b)
    | _, _ => none
  | _, _, _, _, _, _, _, _ => none

theorem namesIn_get {lo hi : Nat} : ∀ (m : List (Nat × Src)), namesIn lo hi m = true → ∀ n x, get m n = some x → lo ≤ n ∧ n < hi
  | [], _, n, x, h => by simp [get] at h
  | (k, y) :: r, h, n, x, hn => by
    simp only [namesIn] at h
    split at h
    · rename_i a b
      simp only [get] at hn
      split at hn
      · rename_i e
        have e := Nat.eq_of_beq_eq_true e; subst e
        exact ⟨by simpa [Nat.ble_eq] using a, by simpa [Nat.blt_eq] using b⟩
      · exact namesIn_get r h n x hn
    · cases h

theorem wrOk_get {h0 : List (Nat × AO)} {wr : List Nat} : ∀ (l : List Nat), wrOk h0 wr l = true → ∀ n ∈ l, ∀ o, get h0 n = some o → n ∈ wr
  | [], _, n, h, _, _ => by cases h
  | k :: r, h, n, hn, o, ho => by
    simp only [wrOk] at h
    split at h
    · rename_i hk
      rcases List.mem_cons.1 hn with rfl | hn
      · rw [hk] at ho; cases ho
      · exact wrOk_get r h n hn o ho
    · split at h
      · rename_i hm
        rcases List.mem_cons.1 hn with rfl | hn
        · exact (mem_iff n wr).1 hm
        · exact wrOk_get r h n hn o ho
      · cases h

theorem oldOk_get {c : CM} {wr : List Nat} : ∀ (l : List (Nat × AO)), oldOk c wr l = true → ∀ n o k, get l n = some o → c.fresh n = true → get c.m n = some (.nm k) → c.fresh k = true ∨ k ∈ wr
  | [], _, n, o, k, h, _, _ => by simp [get] at h
  | (q, x) :: r, h, n, o, k, hn, hf, hk => by
    simp only [oldOk] at h
    have hget : n = q ∨ get r n = some o := by
      simp only [get] at hn
      split at hn
      · rename_i hm; exact .inl (Nat.eq_of_beq_eq_true hm).symm
      · exact .inr hn
    split at h
    · rename_i k' hfq hkq
      split at h
      · cases h
      · rename_i hno
        rcases hget with e | hn
        · subst e
          rw [hk] at hkq; cases hkq
          cases h1 : c.fresh k with
          | true => exact .inl rfl
          | false => cases h2 : mem k wr with
            | true => exact .inr ((mem_iff k wr).1 h2)
            | false => exact (hno h1 h2).elim
        · exact oldOk_get r h n o k hn hf hk
    · rename_i hno
      rcases hget with e | hn
      · subst e; exact (hno k hf hk).elim
      · exact oldOk_get r h n o k hn hf hk

theorem CM.fresh_iff {c : CM} {n : Nat} : c.fresh n = true ↔ c.lo ≤ n ∧ n < c.hi := by
  unfold CM.fresh
  split
  · rename_i h
    have : c.lo ≤ n := by simpa [Nat.ble_eq] using h
    simp [Nat.blt_eq, this]
  · rename_i h
    have : ¬ c.lo ≤ n := by intro e; have := Nat.ble_eq_true_of_le e; rw [this] at h; cases h
    simp [this]

theorem castEntry_ok {P : Program} {c : CM} {ρ : Ren} {w : World} {h : List (Nat × AO)} (hr : ∀ n o, get h n = some o → ∃ l, ρ n = some l ∧ ObjRep P ρ w l o) {n : Nat} {o : AO} {ob : List Prop} (e : castEntry c h n o = some ob) (ho : ∀ p ∈ ob, p) :
    ∃ l, c.ren ρ n = some l ∧ ObjRep P (c.ren ρ) w l o ∧ (l.cap ≠ 0 → ∃ k o1, c.src n = some k ∧ get h k = some o1 ∧ ρ k = some l ∧ o.ro = o1.ro) := by
  unfold castEntry at e
  split at e
  · rename_i hf
    split at e
    · rename_i k hk
      split at e
      · rename_i o1 h1
        obtain ⟨l, hl, hob⟩ := hr k o1 h1
        obtain ⟨q1, q2⟩ := castObj_ok e ho hob
        refine ⟨l, ?_, q1, fun _ => ⟨k, o1, ?_, h1, hl, q2⟩⟩
        · unfold CM.ren; rw [hf, hk]; exact hl
        · unfold CM.src; rw [hf, hk]
      · cases e
    · rename_i wd hk
      have hren : c.ren ρ n = some (nilLoc wd) := by unfold CM.ren; rw [hf, hk]
      refine ⟨nilLoc wd, hren, ?_, fun h => (h rfl).elim⟩
      unfold castNil at e
      split at e
      · rename_i wd' sh len f
        split at e
        · rename_i a b
          cases e
          have a := Nat.eq_of_beq_eq_true a; subst a
          have b := Nat.eq_of_beq_eq_true b
          have h0 := ho _ (List.mem_cons_self ..)
          subst h0
          exact ⟨rfl, b, Nat.le_refl _, fun _ => rfl, fun h => (h rfl).elim⟩
        · cases e
      · cases e
    · cases e
  · rename_i hf
    split at e
    · rename_i o1 h1
      obtain ⟨l, hl, hob⟩ := hr n o1 h1
      obtain ⟨q1, q2⟩ := castObj_ok e ho hob
      refine ⟨l, ?_, q1, fun _ => ⟨n, o1, ?_, h1, hl, q2⟩⟩
      · unfold CM.ren; rw [hf]; exact hl
      · unfold CM.src; rw [hf]
    · cases e

/-- A step whose new names lie below a bound. -/
structure StepB (P : Program) (B : Nat) (ρ : Ren) (h : Hp) (w : World) (ρ' : Ren) (h' : Hp) (w' : World) : Prop where
  le : Le ρ ρ'
  new : ∀ n l, ρ n = none → ρ' n = some l → h.nxt ≤ n ∧ n < B
  rep : HeapRep P ρ' h'.heap w'
  fr : Fr w w' (Owned ρ h.heap h'.wr)
  own : ∀ n o l, get h'.heap n = some o → ρ' n = some l → l.cap ≠ 0 → l.blk < w.heap.size → ∃ m o' l', get h.heap m = some o' ∧ o'.ro = o.ro ∧ ρ m = some l' ∧ l'.cap ≠ 0 ∧ l'.blk = l.blk ∧ (m = n ∨ m ∈ h'.wr)

/-- Like 'castSt_ok', where names from hi to B are left as they are. -/
theorem castSt_okB {P : Program} {B : Nat} {ρ0 ρ' : Ren} {h0 : Hp} {w0 w1 : World} {m : List (Nat × Src)} {s T : St} {ob : List Prop} (st : StepB P B ρ0 h0 w0 ρ' s.hp w1) (hB : h0.hi ≤ B) (f0 : Fresh ρ0 h0.nxt B)
    (e : castSt h0 m s T = some ob) (ho : ∀ p ∈ ob, p) {xs : List Value} (rel : RelL ρ' s.tmps xs) :
    ∃ ρ'', RelL ρ'' T.tmps xs ∧ StepB P B ρ0 h0 w0 ρ'' T.hp w1 ∧ (∀ n l, ρ0 n = none → ρ'' n = some l → n < T.hp.nxt ∨ h0.hi ≤ n) ∧ Fresh ρ'' T.hp.nxt T.hp.hi ∧ h0.nxt ≤ T.hp.nxt ∧ T.hp.hi = h0.hi ∧ (∀ n ∈ h0.wr, n ∈ T.hp.wr) ∧
      (∀ n, ¬ (h0.nxt ≤ n ∧ n < h0.hi) → ρ'' n = ρ' n) ∧
      (∀ n ∈ s.hp.wr, ∀ o, get h0.heap n = some o → n ∈ T.hp.wr) ∧
      ∀ n o l, get T.hp.heap n = some o → ρ'' n = some l → l.cap ≠ 0 → ∃ k o1, get s.hp.heap k = some o1 ∧ ρ' k = some l ∧ o.ro = o1.ro := by
  unfold castSt at e
  split at e
  case h_2 => cases e
  rename_i e0 e1 e2 e3 e4 e5 e6 e7
  split at e
  case h_2 => cases e
  rename_i a b ha hb
  cases e
  obtain ⟨oa, obb⟩ := all_append ho
  have e1 := Nat.eq_of_beq_eq_true e1
  have e2 : h0.nxt ≤ T.hp.nxt := by simpa [Nat.ble_eq] using e2
  have e3 : s.hp.nxt ≤ h0.hi := by simpa [Nat.ble_eq] using e3
  let c : CM := ⟨h0.nxt, h0.hi, m⟩
  have hold : ∀ n, c.fresh n = false → c.ren ρ' n = ρ' n := fun n h => by unfold CM.ren; rw [h]
  have hnone : ∀ n, c.fresh n = true → ρ0 n = none := fun n h => by
    have := CM.fresh_iff.1 h
    exact f0 n this.1 (Nat.lt_of_lt_of_le this.2 hB)
  have entry : ∀ n o, get T.hp.heap n = some o → ∃ l, c.ren ρ' n = some l ∧ ObjRep P (c.ren ρ') w1 l o ∧ (l.cap ≠ 0 → ∃ k o1, c.src n = some k ∧ get s.hp.heap k = some o1 ∧ ρ' k = some l ∧ o.ro = o1.ro) := fun n o hn => by
    obtain ⟨ob', h1, h2⟩ := castHeap_get _ b hb obb n o hn
    exact castEntry_ok (P := P) (w := w1) (ρ := ρ') (c := c) st.rep.1 h1 h2
  refine ⟨c.ren ρ', ?_, ⟨?_, ?_, ⟨?_, ?_⟩, ?_, ?_⟩, ?_, ?_, e2, e1, subB_get _ e0, fun n hn => hold n (by
      cases hf : c.fresh n with
      | false => rfl
      | true => exact (hn (CM.fresh_iff.1 hf)).elim), fun n hn o ho => wrOk_get _ e5 n hn o ho, fun n o l hn hl hc => by
        obtain ⟨l1, a1, a2, a3⟩ := entry n o hn
        rw [hl] at a1; cases a1
        obtain ⟨k1, p1, s1, g1, d1, ro1⟩ := a3 hc
        exact ⟨k1, p1, g1, d1, ro1⟩⟩
  · obtain ⟨q1, q2⟩ := castTops_ok (c := c) (ρ := ρ') _ _ a ha oa
    obtain ⟨r1, r2⟩ := rel
    refine ⟨q1.symm.trans r1, fun k v hk => ?_⟩
    obtain ⟨u, hu, hux⟩ := q2 k v hk
    obtain ⟨x, hx, hrx⟩ := r2 k u hu
    exact ⟨x, hx, hux x hrx⟩
  · intro n l hn
    have : c.fresh n = false := by
      cases h : c.fresh n with
      | false => rfl
      | true => rw [hnone n h] at hn; cases hn
    rw [hold n this]
    exact st.le n l hn
  · intro n l h1 h2
    cases hf : c.fresh n with
    | true => exact ⟨(CM.fresh_iff.1 hf).1, Nat.lt_of_lt_of_le (CM.fresh_iff.1 hf).2 hB⟩
    | false =>
      rw [hold n hf] at h2
      exact st.new n l h1 h2
  · intro n o hn
    obtain ⟨l, h1, h2, _⟩ := entry n o hn
    exact ⟨l, h1, h2⟩
  · intro n k o o' l l' hn hk hne hro hl hl' hc hc'
    obtain ⟨l1, a1, a2, a3⟩ := entry n o hn
    obtain ⟨l2, b1, b2, b3⟩ := entry k o' hk
    rw [hl] at a1; cases a1
    rw [hl'] at b1; cases b1
    obtain ⟨k1, p1, s1, g1, d1, ro1⟩ := a3 hc
    obtain ⟨k2, p2, s2, g2, d2, ro2⟩ := b3 hc'
    have hk12 : k1 ≠ k2 := fun x => (apartB_get _ _ e7).2 n k o o' k1 hn hk hne s1 (by rw [x]; exact s2)
    exact st.rep.2 k1 k2 p1 p2 _ _ g1 g2 hk12 (by rw [← ro1, ← ro2]; exact hro) d1 d2 hc hc'
  · refine ⟨st.fr.size, fun q hq hn => st.fr.same q hq (fun ⟨n, hnw, o, l, x1, x2, x3, x4, x5⟩ => hn ⟨n, wrOk_get _ e5 n hnw o x1, o, l, x1, x2, x3, x4, x5⟩), st.fr.tape, st.fr.os, st.fr.output⟩
  · intro n o l hn hl hc hlt
    obtain ⟨l1, a1, a2, a3⟩ := entry n o hn
    rw [hl] at a1; cases a1
    obtain ⟨k1, p1, s1, g1, d1, ro1⟩ := a3 hc
    obtain ⟨n2, o2, l2, y1, y2, y3, y4, y5, y6⟩ := st.own k1 p1 l g1 d1 hc hlt
    refine ⟨n2, o2, l2, y1, y2.trans ro1.symm, y3, y4, y5, ?_⟩
    have hwr : n2 ∈ s.hp.wr → n2 ∈ T.hp.wr := fun h => wrOk_get _ e5 n2 h o2 y1
    rcases y6 with rfl | y6
    · cases hf : c.fresh n with
      | false => unfold CM.src at s1; rw [hf] at s1; cases s1; exact .inl rfl
      | true =>
        have hg : get c.m n = some (.nm n2) := by
          unfold CM.src at s1; rw [hf] at s1; simp only at s1
          split at s1
          · rename_i k hk; cases s1; exact hk
          · cases s1
        rcases oldOk_get _ e6 n o n2 hn hf hg with h | h
        · rw [hnone n2 h] at y3; cases y3
        · exact .inr h
    · exact .inr (hwr y6)
  · intro n l h1 h2
    cases hf : c.fresh n with
    | true =>
      unfold CM.ren at h2
      rw [hf] at h2
      simp only at h2
      cases hg : get c.m n with
      | none => rw [hg] at h2; cases h2
      | some x => exact .inl (namesIn_get m e4 n x hg).2
    | false =>
      rw [hold n hf] at h2
      have h3 := (st.new n l h1 h2).1
      refine .inr ?_
      rcases Nat.lt_or_ge n h0.hi with h4 | h4
      · have : c.fresh n = true := CM.fresh_iff.2 ⟨h3, h4⟩
        rw [this] at hf; cases hf
      · exact h4
  · intro n h1 h2
    rw [e1] at h2
    have hf : c.fresh n = true := CM.fresh_iff.2 ⟨by show h0.nxt ≤ n; omega, h2⟩
    unfold CM.ren
    rw [hf]
    cases hg : get c.m n with
    | none => rfl
    | some x => have := (namesIn_get m e4 n x hg).2; omega

theorem castSt_ok {P : Program} {ρ0 ρ' : Ren} {h0 : Hp} {w0 w1 : World} {m : List (Nat × Src)} {s T : St} {ob : List Prop} (st : Step P ρ0 h0 w0 ρ' s.hp w1) (f0 : Fresh ρ0 h0.nxt h0.hi) (r0 : HeapRep P ρ0 h0.heap w0)
    (e : castSt h0 m s T = some ob) (ho : ∀ p ∈ ob, p) {xs : List Value} (rel : RelL ρ' s.tmps xs) :
    ∃ ρ'', RelL ρ'' T.tmps xs ∧ Step P ρ0 h0 w0 ρ'' T.hp w1 ∧ Fresh ρ'' T.hp.nxt T.hp.hi ∧ h0.nxt ≤ T.hp.nxt ∧ T.hp.hi = h0.hi ∧ ∀ n ∈ h0.wr, n ∈ T.hp.wr := by
  have hs : s.hp.nxt ≤ h0.hi := by
    unfold castSt at e
    split at e
    · rename_i e0 e1 e2 e3 e4 e5 e6 e7
      simpa [Nat.ble_eq] using e3
    · cases e
  obtain ⟨ρ'', q1, q2, q3, q4, q5, q6, q7, _⟩ := castSt_okB (B := h0.hi) ⟨st.le, fun n l a b => ⟨(st.new n l a b).1, Nat.lt_of_lt_of_le (st.new n l a b).2 hs⟩, st.rep, st.fr, st.own⟩ (Nat.le_refl _) f0 e ho rel
  refine ⟨ρ'', q1, ⟨q2.le, fun n l a b => ⟨(q2.new n l a b).1, ?_⟩, q2.rep, q2.fr, q2.own⟩, q4, q5, q6, q7⟩
  rcases q3 n l a b with h | h
  · exact h
  · have := (q2.new n l a b).2; omega

end Go.Ev
