/-
  EvLoc2 and what follows it.
-/
import Derived.Test.YtmndhjodbnojdaaDoorEvRen
import Derived.Test.YtmndhjodbnojdaaDoorEvDraw
/-
  A loop seen under names of its own: the evaluator's step is sound.
-/
set_option linter.unusedSimpArgs false
set_option linter.unusedVariables false
namespace Go.Ev

theorem relL_mask {ρ : Ren} (keep : List Nat) {l : List AV} {xs : List Value} (h : RelL ρ l xs) : RelL ρ (mask keep l 0) xs := by
  obtain ⟨h1, h2⟩ := h
  refine ⟨by rw [mask_length, h1], fun k v hk => ?_⟩
  rw [mask_get] at hk
  cases hv : l[k]? with
  | none => rw [hv] at hk; cases hk
  | some u =>
    obtain ⟨x, hx, hr⟩ := h2 k u hv
    rw [hv] at hk
    simp only [Option.map_some, Option.some.injEq] at hk
    refine ⟨x, hx, ?_⟩
    subst hk
    split
    · exact hr
    · exact .inl rfl

theorem lpl_ok {P : Program} {body : Code} {keep r : List Nat} {p k : Nat} {e : Ex} {tm : List AV} {heap : List (Nat × AO)} {wr0 : List Nat} {s sl : St} {tmo : List AV} {hp : List (Nat × AO)} {wr : List Nat} {rest : List Hint} {ob : List Prop} {auto : Bool}
    (hin0 : loopIn keep r p s = some sl) (hout0 : loopOut r p k tm heap wr0 s = some (tmo, hp, wr)) (H : LoopHolds P body sl e ⟨tm, ⟨heap, r.length + 1 + k, gnm 0, [], [], wr0, false⟩⟩) :
    ∀ ρ a w Q, Pre P ρ s.tmps s.hp a w → Post P ρ s.hp w e ⟨tmo, ⟨hp, s.hp.nxt + k, s.hp.hi, rest, ob, addAll wr s.hp.wr, auto⟩⟩ Q → (Code.loop body).wp P Q a w := by
  intro ρ a w Q pre post
  unfold loopIn at hin0
  split at hin0
  case h_2 => cases hin0
  rename_i la rp hla hrp
  split at hin0
  case h_2 => cases hin0
  rename_i lh hlh hall hnd hgb
  cases hin0
  unfold loopOut at hout0
  split at hout0
  case h_2 => cases hout0
  rename_i tmo' hp' wr' hk htm hout hwr
  cases hout0
  obtain ⟨hr, hf, hg⟩ : HeapRep P ρ s.hp.heap w ∧ Fresh ρ s.hp.nxt s.hp.hi ∧ GOk ρ := ⟨pre.rep, pre.fresh, pre.glob⟩
  simp only [Bool.and_eq_true] at hk hgb
  have hhi : s.hp.hi ≤ gnm 0 := Nat.le_of_ble_eq_true hgb.2
  have hng := notGlobB_get r hgb.1
  have hnd := nodupB_nd r hnd
  have hk2 : r.length + 1 + k ≤ gnm 0 := Nat.le_of_ble_eq_true hk.1
  have hnx : s.hp.nxt + k ≤ s.hp.hi := Nat.le_of_ble_eq_true hk.2.1
  have hno := noneAt_get heap hk.2.2
  obtain ⟨hpl, hrp⟩ := takeN_eq p r rp hrp
  let ρl : Ren := fun l => if gnm 0 ≤ l then ρ l else match l with
    | 0 => none
    | m + 1 => match r[m]? with
      | some b => ρ b
      | none => none
  have hρg : ∀ l, gnm 0 ≤ l → ρl l = ρ l := fun l hl => by simp [ρl, hl]
  have hρi : ∀ m b, m + 1 < gnm 0 → r[m]? = some b → ρl (m + 1) = ρ b := fun m b hm hb => by
    have : ¬ gnm 0 ≤ m + 1 := by omega
    simp [ρl, this, hb]
  have hrl : ∀ m b, r[m]? = some b → m < r.length := fun m b hb => (List.getElem?_eq_some_iff.1 hb).1
  have H1 : ∀ n k, toLoc r n = some k → ρl k = ρ n := by
    intro n k hn
    rcases toLoc_spec hn with ⟨a, rfl⟩ | ⟨a, b, c⟩
    · exact hρg _ a
    · have := hrl _ _ c
      have := hρi (k - 1) n (by omega) c
      rw [← this]; congr 1; omega
  obtain ⟨g1, g2⟩ := locHeap_get rp lh hlh
  have hrep : HeapRep P ρl lh w := by
    refine ⟨fun k o' hk => ?_, fun k k2 o o2 l l2 ha hb hne hro hl hl2 hc hc2 => ?_⟩
    · obtain ⟨b, hb, o, q1, q2, q3⟩ := g2 k o' hk
      obtain ⟨l, hl, hob⟩ := hr.1 b o q2
      exact ⟨l, (H1 b k q1).trans hl, (renO_rep H1 q3 hob).1⟩
    · obtain ⟨b, hbm, p, q1, q2, q3⟩ := g2 k o ha
      obtain ⟨b', hbm', p', q1', q2', q3'⟩ := g2 k2 o2 hb
      obtain ⟨x1, hx1, hob1⟩ := hr.1 b p q2
      obtain ⟨x2, hx2, hob2⟩ := hr.1 b' p' q2'
      have e1 := (renO_rep H1 q3 hob1).2
      have e2 := (renO_rep H1 q3' hob2).2
      have hbb : b ≠ b' := fun x => by subst x; rw [q1] at q1'; cases q1'; exact hne rfl
      rw [H1 b k q1] at hl
      rw [H1 b' k2 q1'] at hl2
      exact hr.2 b b' p p' l l2 q2 q2' hbb (by rw [← e1, ← e2]; exact hro) hl hl2 hc hc2
  have hfr : Fresh ρl (r.length + 1) (gnm 0) := by
    intro n h1 h2
    have : ¬ gnm 0 ≤ n := by omega
    cases n with
    | zero => omega
    | succ m =>
      have hm : r[m]? = none := by simp; omega
      simp [ρl, this, hm]
  have hgl : GOk ρl := fun g => by
    obtain ⟨l, hl, q⟩ := hg g
    exact ⟨l, (hρg _ (by unfold gnm; omega)).trans hl, q⟩
  have hrel : RelL ρl la a.tmps.toList := by
    have q := relL_mask keep pre.rel
    obtain ⟨z1, z2⟩ := renL_get _ _ hla
    refine ⟨z1.trans q.1, fun j v' hj => ?_⟩
    obtain ⟨v, hv, hv'⟩ := z2 j v' hj
    obtain ⟨x, hx, hxr⟩ := q.2 j v hv
    exact ⟨x, hx, renV_rel H1 hv' hxr⟩
  refine H ρl a w Q ⟨hrel, pre.defers, hrep, hfr, hgl⟩ (fun ρl' a' w' hrel' hdef st => ?_)
  let ρ' : Ren := fun m => if s.hp.nxt ≤ m ∧ m < s.hp.nxt + k then ρl' (r.length + 1 + (m - s.hp.nxt)) else ρ m
  have hsome : ∀ b l, ρ b = some l → ¬ (s.hp.nxt ≤ b ∧ b < s.hp.nxt + k) := fun b l hb hn => by
    have := hf b hn.1 (by omega); rw [this] at hb; cases hb
  have hle : Le ρ ρ' := fun n l hn => by simp only [ρ']; rw [if_neg (hsome n l hn)]; exact hn
  have hin : ∀ b ∈ r, ∃ o l, get s.hp.heap b = some o ∧ ρ b = some l := fun b hb => by
    obtain ⟨o, q2⟩ := allIn_get r hall b hb
    obtain ⟨l, hl⟩ := hr.loc q2
    exact ⟨o, l, q2, hl⟩
  have H2 : ∀ l b, toOut r s.hp.nxt k l = some b → ρ' b = ρl' l := by
    intro l b hb
    rcases toOut_spec hb with ⟨a, rfl⟩ | ⟨a, m, rfl, hm | ⟨m1, m2, rfl⟩⟩
    · obtain ⟨L, hL, _⟩ := hg (b - gnm 0)
      have eb : gnm (b - gnm 0) = b := by unfold gnm at a ⊢; omega
      rw [eb] at hL
      rw [hle b L hL, st.le b L ((hρg b a).trans hL)]
    · obtain ⟨o, L, _, hL⟩ := hin b (List.mem_of_getElem? hm)
      rw [hle b L hL, st.le (m + 1) L ((hρi m b a hm).trans hL)]
    · simp only [ρ']
      rw [if_pos (by omega)]
      congr 1; omega
  have inj : ∀ i j b, i ≤ r.length + k → j ≤ r.length + k → 1 ≤ i → 1 ≤ j → toOut r s.hp.nxt k i = some b → toOut r s.hp.nxt k j = some b → i = j := by
    intro i j b hi hj hi1 hj1 e1 e2
    rcases toOut_spec e1 with ⟨a, _⟩ | ⟨_, m, rfl, hm⟩
    · omega
    rcases toOut_spec e2 with ⟨a, _⟩ | ⟨_, m', rfl, hm'⟩
    · omega
    rcases hm with hm | ⟨m1, m2, rfl⟩
    · rcases hm' with hm' | ⟨m1', m2', rfl⟩
      · obtain ⟨ha, ha'⟩ := List.getElem?_eq_some_iff.1 hm
        obtain ⟨hb, hb'⟩ := List.getElem?_eq_some_iff.1 hm'
        have := (List.getElem_inj hnd).1 (ha'.trans hb'.symm)
        omega
      · obtain ⟨o, L, _, hL⟩ := hin _ (List.mem_of_getElem? hm)
        exact (hsome _ L hL (by omega)).elim
    · rcases hm' with hm' | ⟨m1', m2', e3⟩
      · obtain ⟨o, L, _, hL⟩ := hin _ (List.mem_of_getElem? hm')
        exact (hsome _ L hL (by omega)).elim
      · omega
  obtain ⟨k1, k2⟩ := outHeapP_get _ hp hout inj
  -- what a local name with an object stands for
  have loc : ∀ m o1, get lh m = some o1 → ∃ b o2, toOut r s.hp.nxt k m = some b ∧ 1 ≤ m ∧ m ≤ p ∧ m ≤ r.length ∧ get s.hp.heap b = some o2 ∧ o1.ro = o2.ro ∧ ρl m = ρ b := by
    intro m o1 hm
    obtain ⟨b, hb, o2, q1, q2, q3⟩ := g2 m o1 hm
    rw [hrp] at hb
    have hbr : b ∈ r := List.mem_of_mem_take hb
    have hbl := hng b hbr
    rcases toLoc_spec q1 with ⟨a, rfl⟩ | ⟨a, c, d⟩
    · omega
    · have hm1 := hrl _ _ d
      refine ⟨b, o2, toOut_old c (by omega) d, c, ?_, by omega, q2, (renO_rep H1 q3 (hr.1 b o2 q2).choose_spec.2).2, H1 b m q1⟩
      obtain ⟨i, hi, hib⟩ := List.mem_take_iff_getElem.1 hb
      obtain ⟨hd1, hd2⟩ := List.getElem?_eq_some_iff.1 d
      have := (List.getElem_inj hnd (h₀ := by omega) (h₁ := hd1)).1 (hib.trans hd2.symm)
      omega
  have wrin : ∀ m ∈ wr0, m < gnm 0 ∧ ∃ b, toOut r s.hp.nxt k m = some b ∧ b ∈ wr := outNames_get _ _ hwr
  have stay : ∀ b o L, (∀ l, 1 ≤ l → l ≤ r.length + k → ¬ (p < l ∧ l ≤ r.length) → toOut r s.hp.nxt k l ≠ some b) → get s.hp.heap b = some o → ρ b = some L → L.cap ≠ 0 → w'.heap[L.blk]? = w.heap[L.blk]? := by
    intro b o L hb hgb hL hc
    obtain ⟨L', hL', hob⟩ := hr.1 b o hgb
    rw [hL] at hL'; cases hL'
    refine st.fr.same L.blk (hob.lt hc) ?_
    rintro ⟨m, hm, o1, L1, y1, y2, y3, y4, y5⟩
    obtain ⟨b1, o2, z1, z2, z3, z33, z4, z5, z6⟩ := loc m o1 y1
    have hne : b1 ≠ b := fun x => by subst x; exact hb m z2 (by omega) (by omega) z1
    rw [z6] at y3
    exact hr.2 b1 b o2 o L1 L z4 hgb hne (by rw [← z5, y2]; rfl) y3 hL y4 hc y5
  have apart : ∀ l o' L1 b2 o2 L2, get heap l = some o' → ρl' l = some L1 → L1.cap ≠ 0 → (∀ l, 1 ≤ l → l ≤ r.length + k → ¬ (p < l ∧ l ≤ r.length) → toOut r s.hp.nxt k l ≠ some b2) → get s.hp.heap b2 = some o2 → ρ b2 = some L2 → L2.cap ≠ 0 →
      (o'.ro && o2.ro) = false → L1.blk ≠ L2.blk := by
    intro l o' L1 b2 o2 L2 hgl hL1 hc1 hb2 hg2 hL2 hc2 hro heq
    obtain ⟨L', hL', hob⟩ := hr.1 b2 o2 hg2
    rw [hL2] at hL'; cases hL'
    have hlt := hob.lt hc2
    obtain ⟨m, o3, L3, y1, y2, y3, y4, y5, y6⟩ := st.own l o' L1 hgl hL1 hc1 (by rw [heq]; exact hlt)
    obtain ⟨b1, o4, z1, z2, z3, z33, z4, z5, z6⟩ := loc m o3 y1
    have hne : b1 ≠ b2 := fun x => by subst x; exact hb2 m z2 (by omega) (by omega) z1
    rw [z6] at y3
    exact hr.2 b1 b2 o4 o2 L3 L2 z4 hg2 hne (by rw [← z5, y2]; exact hro) y3 hL2 y4 hc2 (y5.trans heq)
  have kind : ∀ b o, get hp b = some o → (∃ l o' , 1 ≤ l ∧ l ≤ r.length + k ∧ ¬ (p < l ∧ l ≤ r.length) ∧ toOut r s.hp.nxt k l = some b ∧ get heap l = some o' ∧ renO (toOut r s.hp.nxt k) o' = some o ∧ ∃ L, ρl' l = some L ∧ ObjRep P ρ' w' L o ∧ o.ro = o'.ro) ∨
      ((∀ l, 1 ≤ l → l ≤ r.length + k → ¬ (p < l ∧ l ≤ r.length) → toOut r s.hp.nxt k l ≠ some b) ∧ get s.hp.heap b = some o) := by
    intro b o hb
    by_cases hex : ∃ l, 1 ≤ l ∧ l ≤ r.length + k ∧ ¬ (p < l ∧ l ≤ r.length) ∧ toOut r s.hp.nxt k l = some b
    · obtain ⟨l, h1, h2, h4, h3⟩ := hex
      obtain ⟨c, hc, q⟩ := k1 l h1 h2 h4
      rw [h3] at hc; cases hc
      obtain ⟨o', q1, q2⟩ := q o hb
      obtain ⟨L, hL, hob⟩ := st.rep.1 l o' q1
      obtain ⟨z1, z2⟩ := renO_rep H2 q2 hob
      exact .inl ⟨l, o', h1, h2, h4, h3, q1, q2, L, hL, z1, z2⟩
    · have hno : ∀ l, 1 ≤ l → l ≤ r.length + k → ¬ (p < l ∧ l ≤ r.length) → toOut r s.hp.nxt k l ≠ some b := fun l h1 h2 h4 h3 => hex ⟨l, h1, h2, h4, h3⟩
      exact .inr ⟨hno, (k2 b hno) ▸ hb⟩
  refine post ρ' a' w' ?_ hdef ⟨hle, fun n l h1 h2 => ?_, ⟨fun b o hb => ?_, fun b c o1 o2 L1 L2 hb hc hne hro hL1 hL2 hc1 hc2 => ?_⟩, ⟨st.fr.size, fun b hb hn => st.fr.same b hb ?_, st.fr.tape, st.fr.os, st.fr.output⟩, fun b o L hb hL hc hlt => ?_⟩
  · obtain ⟨z1, z2⟩ := renL_get _ _ htm
    refine ⟨z1.trans hrel'.1, fun j v' hj => ?_⟩
    obtain ⟨v, hv, hv'⟩ := z2 j v' hj
    obtain ⟨x, hx, hxr⟩ := hrel'.2 j v hv
    exact ⟨x, hx, renV_rel H2 hv' hxr⟩
  · simp only [ρ'] at h2
    split at h2
    · rename_i hh; exact hh
    · rw [h1] at h2; cases h2
  · rcases kind b o hb with ⟨l, o', a1, a2, a0, a3, a4, a5, L, a6, a7, _⟩ | ⟨a1, a2⟩
    · exact ⟨L, (H2 l b a3).trans a6, a7⟩
    · obtain ⟨L, hL, hob⟩ := hr.1 b o a2
      exact ⟨L, hle b L hL, hob.keep hle (fun hc => stay b o L a1 a2 hL hc)⟩
  · rcases kind b o1 hb with ⟨l, o', a1, a2, a0, a3, a4, a5, L, a6, a7, a8⟩ | ⟨a1, a2⟩
    · rw [H2 l b a3, a6] at hL1; cases hL1
      rcases kind c o2 hc with ⟨l', o'', b1, b2, b0, b3, b4, b5, L', b6, b7, b8⟩ | ⟨b1, b2⟩
      · rw [H2 l' c b3, b6] at hL2; cases hL2
        have hll : l ≠ l' := fun x => by subst x; rw [a3] at b3; cases b3; exact hne rfl
        exact st.rep.2 l l' o' o'' _ _ a4 b4 hll (by rw [← a8, ← b8]; exact hro) a6 b6 hc1 hc2
      · obtain ⟨L', hL', _⟩ := hr.1 c o2 b2
        rw [hle c L' hL'] at hL2; cases hL2
        exact apart l o' _ c o2 _ a4 a6 hc1 b1 b2 hL' hc2 (by rw [← a8]; exact hro)
    · obtain ⟨L, hL, _⟩ := hr.1 b o1 a2
      rw [hle b L hL] at hL1; cases hL1
      rcases kind c o2 hc with ⟨l', o'', b1, b2, b0, b3, b4, b5, L', b6, b7, b8⟩ | ⟨b1, b2⟩
      · rw [H2 l' c b3, b6] at hL2; cases hL2
        exact (apart l' o'' _ b o1 _ b4 b6 hc2 a1 a2 hL hc1 (by rw [← b8, Bool.and_comm]; exact hro)).symm
      · obtain ⟨L', hL', _⟩ := hr.1 c o2 b2
        rw [hle c L' hL'] at hL2; cases hL2
        exact hr.2 b c o1 o2 _ _ a2 b2 hne hro hL hL' hc1 hc2
  · rintro ⟨m, hm, o1, L1, y1, y2, y3, y4, y5⟩
    obtain ⟨hlt, c, hc, hcw⟩ := wrin m hm
    obtain ⟨b1, o2, z1, z2, z3, z33, z4, z5, z6⟩ := loc m o1 y1
    rw [hc] at z1; cases z1
    rw [z6] at y3
    exact hn ⟨c, mem_addAll.2 (.inl hcw), o2, L1, z4, z5.symm.trans y2, y3, y4, y5⟩
  · rcases kind b o hb with ⟨l, o', a1, a2, a0, a3, a4, a5, L', a6, a7, a8⟩ | ⟨a1, a2⟩
    · rw [H2 l b a3, a6] at hL; cases hL
      obtain ⟨m, o3, L3, y1, y2, y3, y4, y5, y6⟩ := st.own l o' _ a4 a6 hc hlt
      obtain ⟨b1, o4, z1, z2, z3, z33, z4, z5, z6⟩ := loc m o3 y1
      rw [z6] at y3
      refine ⟨b1, o4, L3, z4, (z5.symm.trans y2).trans a8.symm, y3, y4, y5, ?_⟩
      rcases y6 with rfl | y6
      · rw [a3] at z1; cases z1; exact .inl rfl
      · obtain ⟨_, c, hc', hcw⟩ := wrin m y6
        rw [hc'] at z1; cases z1
        exact .inr (mem_addAll.2 (.inl hcw))
    · obtain ⟨L', hL', _⟩ := hr.1 b o a2
      rw [hle b L' hL'] at hL; cases hL
      exact ⟨b, o, _, a2, rfl, hL', hc, rfl, .inl rfl⟩
end Go.Ev

/-
  THE EVALUATOR IS SOUND: what it says of code, and of a call, holds of the machine.
-/
set_option linter.unusedSimpArgs false
set_option linter.unusedVariables false
namespace Go.Ev

structure AllOk (E : Env) (n : Nat) : Prop where
  ex : ∀ c s e s', exec E n c s = some (e, s') → ExOk E.P c s e s'
  lp : ∀ c s e s', loopX E n c s = some (e, s') → LpOk E.P n c s e s'
  sq : ∀ all i rest s s', seqOps E n all i rest s = some s' → SqOk E.P all rest s s'
  op : ∀ tm op h v h', oper E n tm op h = some (v, h') → OpOk E.P tm op h v h'
  ca : ∀ f args h v h', callF E n f args h = some (v, h') → CaOk E.P f args h v h'

/-- The machine behind a scope into which one jumps. -/
def Exit.inner (P : Program) (body : Code) (Q : Exit → Act → World → Prop) : Exit → Act → World → Prop
  | .goto l, a, w => match findLabel body l with
    | some rest => rest.wp P (Exit.noGoto Q) a w
    | none => Q (.goto l) a w
  | e, a, w => Q e a w

theorem wp_scope_jump {P : Program} {Q : Exit → Act → World → Prop} {a : Act} {w : World} {c : Code} (h : c.wp P (Exit.inner P c Q) a w) : (Code.scope c).wp P Q a w := by
  intro b k cs
  obtain ⟨e, a₁, w₁, hq, harr⟩ := h b (.inScope c :: k) cs
  cases e with
  | normal => exact ⟨.normal, a₁, w₁, hq, .head step_scope (Steps.trans harr (.one step_inScope))⟩
  | exit id => exact ⟨.exit id, a₁, w₁, hq, fun k' hk => .head step_scope (harr k' (by simp [exitTo, hk]))⟩
  | ret => exact ⟨_, a₁, w₁, hq, .of_steps (.one step_scope) harr⟩
  | panic ch => exact ⟨_, a₁, w₁, hq, .of_steps (.one step_scope) harr⟩
  | outgrown => exact ⟨_, a₁, w₁, hq, .of_steps (.one step_scope) harr⟩
  | goto l =>
    simp only [Exit.inner] at hq
    cases hf : findLabel c l with
    | none =>
      rw [hf] at hq
      exact ⟨.goto l, a₁, w₁, hq, fun k' hk => .head step_scope (harr k' (by simp [gotoIn, hf, hk]))⟩
    | some rest =>
      rw [hf] at hq
      have hjump : Steps P (lone (b.at a (.code (.scope c) :: k)) cs w) (lone (b.at a₁ (.code rest :: .inScope c :: k)) cs w₁) := .head step_scope (harr _ (by simp [gotoIn, hf]))
      obtain ⟨e₂, a₂, w₂, hq₂, harr₂⟩ := hq b (.inScope c :: k) cs
      cases e₂ with
      | normal => exact ⟨.normal, a₂, w₂, hq₂, hjump.trans (Steps.trans harr₂ (.one step_inScope))⟩
      | exit id => exact ⟨.exit id, a₂, w₂, hq₂, fun k' hk => hjump.trans (harr₂ k' (by simp [exitTo, hk]))⟩
      | goto l => exact hq₂.elim
      | ret => exact ⟨_, a₂, w₂, hq₂, .of_steps hjump harr₂⟩
      | panic ch => exact ⟨_, a₂, w₂, hq₂, .of_steps hjump harr₂⟩
      | outgrown => exact ⟨_, a₂, w₂, hq₂, .of_steps hjump harr₂⟩

theorem exOf_then {next : Act → World → Prop} {Q : Exit → Act → World → Prop} {e : Ex} {a : Act} {w : World} (hn : e = .norm → next a w) (hq : e ≠ .norm → Q (exOf e) a w) : Exit.then next Q (exOf e) a w := by
  cases e with
  | norm => exact hn rfl
  | exit id => exact hq (by simp)
  | goto l => exact hq (by simp)
  | ret => exact hq (by simp)

theorem Post.step {P : Program} {ρ ρ' : Ren} {h h1 : Hp} {w w1 : World} {e : Ex} {s' : St} {Q : Exit → Act → World → Prop} (p : Post P ρ h w e s' Q) (st : Step P ρ h w ρ' h1 w1) (m : Mono h h1) (m' : Mono h1 s'.hp) : Post P ρ' h1 w1 e s' Q :=
  fun ρ'' a' w' hr hd hs => p ρ'' a' w' hr hd (st.trans hs m m')

theorem notTmp_ne {d : Nat} {v : Operand} (h : notTmp d v = true) : v ≠ .tmp d := by
  intro e; subst e; simp [notTmp] at h

theorem eval_put {a : Act} {d : Nat} {x : Value} {v : Operand} (h : v ≠ .tmp d) : (a.put (some d) x).eval v = a.eval v := by
  cases v with
  | tmp y =>
    have hy : d ≠ y := fun e => h (by rw [e])
    simp [Act.eval, Act.put, Array.getElem?_setIfInBounds_ne hy, Array.getD_eq_getD_getElem?]
  | const v => rfl
  | global g => rfl
  | func f => rfl

theorem eval_put_same {a : Act} {d : Nat} {x : Value} (h : d < a.tmps.size) : (a.put (some d) x).eval (.tmp d) = x := by
  simp [Act.eval, Act.put, h, Array.getD_eq_getD_getElem?]

theorem fuse_eq {l rest : List Oper} {t : TypeId} {x d e : Nat} {k v : Operand} (h : fuse l = some (t, x, k, v, d, e, rest)) : ∃ y1 p1 a1 y2 p2 a2 y3 p3 a3,
    l = ⟨some d, .mapEntry t (.tmp x) k, y1, p1, a1, none⟩ :: ⟨some e, .extract (.tmp d) 1, y2, p2, a2, none⟩ :: ⟨none, .entryStore t (.tmp x) (.tmp e) v, y3, p3, a3, none⟩ :: rest ∧ x ≠ d ∧ x ≠ e ∧ v ≠ .tmp d ∧ v ≠ .tmp e ∧ d ≠ e := by
  unfold fuse at h
  split at h
  · split at h
    · rename_i h1 h2 h3 h4 h5 h6 h7 h8 h9
      cases h
      have h1 := Nat.eq_of_beq_eq_true h1; subst h1
      have h2 := Nat.eq_of_beq_eq_true h2; subst h2
      have h3 := Nat.eq_of_beq_eq_true h3; subst h3
      have h4 := Nat.eq_of_beq_eq_true h4; subst h4
      refine ⟨_, _, _, _, _, _, _, _, _, rfl, fun e => ?_, fun e => ?_, notTmp_ne h7, notTmp_ne h8, fun e => ?_⟩
      · subst e; simp at h5
      · subst e; simp at h6
      · subst e; simp at h9
    · cases h
  · cases h

theorem wanted_none {all : Array Oper} {tm : Array Value} {d : Option Tmp} {op : Op} {y : TypeId} {p : String} {af : Array Edge} : Region.wanted ⟨d, op, y, p, af, none⟩ (yielded all tm) = true := by
  simp [Region.wanted]

theorem fused_ok {P : Program} {all l rest : List Oper} {s s1 s' : St} (h : fused P s l = some (s1, rest)) (o2 : SqOk P all rest s1 s') : SqOk P all l s s' := by
  unfold fused at h
  split at h
  · rename_i t x k v d e rest1 hf
    obtain ⟨y1, p1, a1, y2, p2, a2, y3, p3, a3, rfl, hxd, hxe, hvd, hve, hde⟩ := fuse_eq hf
    split at h
    · rename_i m kv vv dv ev ks agg vk hm hk hv hd he hmk
      split at h
      · rename_i z0 h1 hz hu
        cases h
        have m1 := (update_ok (ρ := fun _ => none) (w := default) hu).1
        refine ⟨m1.trans o2.mono, fun ho ρ a w Q pre post => ?_⟩
        have hM := (by
          have := evA_ok pre.glob (show evA s.tmps (.tmp x) = some m from hm) pre.rel
          exact this : relS ρ m (a.eval (.tmp x)))
        have hK := evA_ok pre.glob hk pre.rel
        have hV := evA_ok pre.glob hv pre.rel
        obtain ⟨X, S, w1, w2, r1, r2, st⟩ := entry_ok hu hmk hz pre.rep hM hK hV
        have hlen := pre.rel.1
        have hdl : d < a.tmps.size := by
          rw [nth_eq] at hd
          have := (List.getElem?_eq_some_iff.1 hd).1
          simp at hlen; omega
        have hel : e < (a.put (some d) (.tuple #[X, goInt S])).tmps.size := by
          rw [nth_eq] at he
          have := (List.getElem?_eq_some_iff.1 he).1
          simp at hlen; simp [Act.put]; omega
        let b1 := a.put (some d) (.tuple #[X, goInt S])
        let b2 := b1.put (some e) (goInt S)
        unfold wpList
        rw [wanted_none, if_pos rfl]
        left
        have e1 : (execOp a.eval ⟨some d, .mapEntry t (.tmp x) k, y1, p1, a1, none⟩).run P w = .ok (.value (.tuple #[X, goInt S])) w1 := by
          simp [execOp, r1]
        unfold Oper.wp
        rw [e1]
        show wpList P all.toArray Q _ b1 w1
        unfold wpList
        rw [wanted_none, if_pos rfl]
        left
        have e2 : (execOp b1.eval ⟨some e, .extract (.tmp d) 1, y2, p2, a2, none⟩).run P w1 = .ok (.value (goInt S)) w1 := by
          have : b1.eval (.tmp d) = .tuple #[X, goInt S] := eval_put_same hdl
          simp [execOp, this, Instr.extract]
        unfold Oper.wp
        rw [e2]
        show wpList P all.toArray Q _ b2 w1
        unfold wpList
        rw [wanted_none, if_pos rfl]
        left
        have e3 : (execOp b2.eval ⟨none, .entryStore t (.tmp x) (.tmp e) v, y3, p3, a3, none⟩).run P w1 = .ok .skip w2 := by
          have q1 : b2.eval (.tmp x) = a.eval (.tmp x) := (eval_put (by simpa using hxe)).trans (eval_put (by simpa using hxd))
          have q2 : b2.eval (.tmp e) = goInt S := eval_put_same hel
          have q3 : b2.eval v = a.eval v := (eval_put hve).trans (eval_put hvd)
          simp [execOp, q1, q2, q3, r2]
        unfold Oper.wp
        rw [e3]
        show wpList P all.toArray Q rest b2 w2
        have hrel : RelL ρ (setNth (setNth s.tmps d .top) e .top) b2.tmps.toList :=
          relL_put (v := .top) (some e) (relL_put (v := .top) (some d) pre.rel (.inl rfl)) (.inl rfl)
        exact o2.wp ho ρ b2 w2 Q (pre.next st m1 hrel (by rw [put_defers, put_defers]; exact pre.defers)) (post.step st m1 o2.mono)
      · cases h
    · cases h
  · cases h

theorem all_ok {E : Env} (H : EnvOk E) : ∀ n, AllOk E n := by
  intro n
  induction n using Nat.strongRecOn with
  | _ n IH =>
  cases n with
  | zero => exact ⟨fun c s e s' h => by simp [exec] at h, fun c s e s' h => by simp [loopX] at h, fun all i rest s s' h => by simp [seqOps] at h, fun tm op h v h' e => by simp [oper] at e, fun f args h v h' e => by simp [callF] at e⟩
  | succ n =>
    have I := IH n (by omega)
    -- loops
    have hlp : ∀ c s e s', loopX E (n + 1) c s = some (e, s') → LpOk E.P (n + 1) c s e s' := by
      intro c s e s' h
      simp only [loopX] at h
      split at h
      · rename_i s1 h1
        have o1 := I.ex _ _ _ _ h1
        have o2 := I.lp _ _ _ _ h
        refine ⟨o1.mono.trans o2.mono, fun ho ρ a w Q pre post => ?_⟩
        rw [rounds_succ]
        refine o1.wp (ho.of o2.mono) ρ a w _ pre (fun ρ' a' w' hr hd hs => ?_)
        exact o2.wp ho ρ' a' w' Q (pre.next hs o1.mono hr hd) (post.step hs o1.mono o2.mono)
      · rename_i hne
        have o1 := I.ex _ _ _ _ h
        refine ⟨o1.mono, fun ho ρ a w Q pre post => ?_⟩
        rw [rounds_succ]
        refine o1.wp ho ρ a w _ pre (fun ρ' a' w' hr hd hs => exOf_then (fun he => ?_) (fun _ => post ρ' a' w' hr hd hs))
        subst he
        exact (hne s' h).elim
    refine ⟨?_, hlp, ?_, ?_, ?_⟩
    ·
      intro c s e s' h
      unfold exec at h
      split at h
      · cases h; exact ⟨.refl _, fun ho ρ a w Q pre post => wp_skip (post ρ a w pre.rel pre.defers (.refl pre.rep rfl))⟩
      · cases h; exact ⟨.refl _, fun ho ρ a w Q pre post => wp_label (post ρ a w pre.rel pre.defers (.refl pre.rep rfl))⟩
      · rename_i id ops draw
        split at h
        · split at h
          · rename_i s1 h1
            cases h
            have o1 := I.sq _ _ _ _ _ h1
            exact ⟨o1.mono, fun ho ρ a w Q pre post => wp_region_list (by have := o1.wp ho ρ a w Q pre post; simpa using this)⟩
          · cases h
        · split at h
          · rename_i ancs hs rest hanc hnode
            simp only [fNat_eq] at h
            split at h
            · rename_i ds s1 hd
              split at h
              · rename_i hord
                cases h
                exact draw_region H.good (m := n) (s1 := { s with hp := { s.hp with hints := rest } }) (fun m' tm op hp v h' hm => (IH m' (by omega)).op tm op hp v h') hanc rfl rfl rfl rfl rfl rfl hd hord
              · cases h
            · cases h
          · cases h
      · rename_i c1 c2
        split at h
        · rename_i s1 h1
          simp only [fSt_eq] at h
          have o1 := I.ex _ _ _ _ h1
          have o2 := I.ex _ _ _ _ h
          refine ⟨o1.mono.trans o2.mono, fun ho ρ a w Q pre post => wp_seq ?_⟩
          refine o1.wp (ho.of o2.mono) ρ a w _ pre (fun ρ' a' w' hr hd hs => ?_)
          exact o2.wp ho ρ' a' w' Q (pre.next hs o1.mono hr hd) (post.step hs o1.mono o2.mono)
        · rename_i hne
          have o1 := I.ex _ _ _ _ h
          refine ⟨o1.mono, fun ho ρ a w Q pre post => wp_seq ?_⟩
          refine o1.wp ho ρ a w _ pre (fun ρ' a' w' hr hd hs => exOf_then (fun he => ?_) (fun _ => post ρ' a' w' hr hd hs))
          subst he
          exact (hne s' h).elim
      · rename_i x c1 c2
        split at h
        · rename_i v hv
          split at h
          · rename_i h1 hd
            obtain ⟨q, o⟩ := dec_qt hd
            have o1 := I.ex _ _ _ _ h
            refine ⟨q.mono.trans o1.mono, fun ho ρ a w Q pre post => ?_⟩
            have hb : a.eval x = .bool true := by
              have h2 := evA_ok pre.glob hv pre.rel
              rcases o (ho.of o1.mono) with rfl | rfl <;> (have := relS_den h2 (by simp); simp [den] at this; exact this.symm)
            have st : Step E.P ρ s.hp w ρ h1 w := .refl pre.rep q.heap
            exact wp_cond_true hb (o1.wp ho ρ a w Q (pre.next st q.mono pre.rel pre.defers) (post.step st q.mono o1.mono))
          · rename_i h1 hd
            obtain ⟨q, o⟩ := dec_qt hd
            have o1 := I.ex _ _ _ _ h
            refine ⟨q.mono.trans o1.mono, fun ho ρ a w Q pre post => ?_⟩
            have hb : a.eval x = .bool false := by
              have h2 := evA_ok pre.glob hv pre.rel
              rcases o (ho.of o1.mono) with rfl | rfl <;> (have := relS_den h2 (by simp); simp [den] at this; exact this.symm)
            have st : Step E.P ρ s.hp w ρ h1 w := .refl pre.rep q.heap
            exact wp_cond_false hb (o1.wp ho ρ a w Q (pre.next st q.mono pre.rel pre.defers) (post.step st q.mono o1.mono))
          · cases h
        · cases h
      · rename_i id body
        split at h
        · rename_i i s1 h1
          have o1 := I.ex _ _ _ _ h1
          split at h
          · rename_i hb
            cases h
            have hb := Nat.eq_of_beq_eq_true hb; subst hb
            refine ⟨o1.mono, fun ho ρ a w Q pre post => wp_block ?_⟩
            refine o1.wp ho ρ a w _ pre (fun ρ' a' w' hr hd hs => ?_)
            simp only [exOf, Exit.inBlock, if_true]
            exact post ρ' a' w' hr hd hs
          · rename_i hb
            cases h
            have hb : i ≠ id := by intro e; subst e; simp at hb
            refine ⟨o1.mono, fun ho ρ a w Q pre post => wp_block ?_⟩
            refine o1.wp ho ρ a w _ pre (fun ρ' a' w' hr hd hs => ?_)
            simp only [exOf, Exit.inBlock, hb, if_false]
            exact post ρ' a' w' hr hd hs
        · rename_i hne
          have o1 := I.ex _ _ _ _ h
          refine ⟨o1.mono, fun ho ρ a w Q pre post => wp_block ?_⟩
          refine o1.wp ho ρ a w _ pre (fun ρ' a' w' hr hd hs => ?_)
          have hp := post ρ' a' w' hr hd hs
          cases e with
          | exit i => exact (hne i s' h).elim
          | norm => exact hp
          | goto l => exact hp
          | ret => exact hp
      · rename_i body
        split at h
        · split at h
          · rename_i hle
            cases h
            refine ⟨⟨fun p hp => List.mem_cons_of_mem _ hp, by simpa [Nat.ble_eq] using hle, rfl, fun n hn => mem_addAll.2 (.inr hn)⟩, fun ho ρ a w Q pre post => ?_⟩
            have hl := H.loops _ _ _ _ (ho _ (List.mem_cons_self ..))
            exact hl ρ a w Q ⟨relL_mask _ pre.rel, pre.defers, pre.rep, pre.fresh, pre.glob⟩ (fun ρ' a' w' hr hd hs => post ρ' a' w' hr hd ⟨hs.le, hs.new, hs.rep, hs.fr, hs.own⟩)
          · cases h
        · split at h
          case h_2 => cases h
          split at h
          · rename_i hin hout
            cases h
            refine ⟨⟨fun p hp => List.mem_cons_of_mem _ hp, Nat.le_add_right _ _, rfl, fun n hn => mem_addAll.2 (.inr hn)⟩, fun ho => ?_⟩
            exact lpl_ok hin hout (H.loops _ _ _ _ (ho _ (List.mem_cons_self ..)))
          · cases h
        · rename_i r hh
          have o := I.lp body _ e s' h
          have q : Qt s.hp { s.hp with hints := r } := ⟨rfl, rfl, rfl, rfl, fun p hp => hp⟩
          refine ⟨q.mono.trans o.mono, fun ho ρ a w Q pre post => wp_loop_rounds n ?_⟩
          have st : Step E.P ρ s.hp w ρ { s.hp with hints := r } w := .refl pre.rep q.heap
          exact o.wp ho ρ a w Q (pre.next st q.mono pre.rel pre.defers) (post.step st q.mono o.mono)
        · have o := I.lp body s e s' h
          exact ⟨o.mono, fun ho ρ a w Q pre post => wp_loop_rounds n (o.wp ho ρ a w Q pre post)⟩
      · cases h; exact ⟨.refl _, fun ho ρ a w Q pre post => wp_exit (post ρ a w pre.rel pre.defers (.refl pre.rep rfl))⟩
      · cases h; exact ⟨.refl _, fun ho ρ a w Q pre post => wp_goto (post ρ a w pre.rel pre.defers (.refl pre.rep rfl))⟩
      · cases h; exact ⟨.refl _, fun ho ρ a w Q pre post => wp_ret (post ρ a w pre.rel pre.defers (.refl pre.rep rfl))⟩
      · rename_i body
        split at h
        · rename_i l s1 h1
          have o1 := I.ex _ _ _ _ h1
          split at h
          · rename_i rest hf
            split at h
            · cases h
            · rename_i hng
              have o2 := I.ex _ _ _ _ h
              refine ⟨o1.mono.trans o2.mono, fun ho ρ a w Q pre post => wp_scope_jump ?_⟩
              refine o1.wp (ho.of o2.mono) ρ a w _ pre (fun ρ' a' w' hr hd hs => ?_)
              simp only [exOf, Exit.inner, hf]
              refine o2.wp ho ρ' a' w' _ (pre.next hs o1.mono hr hd) (fun ρ'' a'' w'' hr' hd' hs' => ?_)
              have hp := post ρ'' a'' w'' hr' hd' (hs.trans hs' o1.mono o2.mono)
              cases e with
              | goto l' => exact (hng l' s' h).elim
              | norm => exact hp
              | exit i => exact hp
              | ret => exact hp
          · rename_i hf
            cases h
            refine ⟨o1.mono, fun ho ρ a w Q pre post => wp_scope_jump ?_⟩
            refine o1.wp ho ρ a w _ pre (fun ρ' a' w' hr hd hs => ?_)
            simp only [exOf, Exit.inner, hf]
            exact post ρ' a' w' hr hd hs
        · rename_i hne
          have o1 := I.ex _ _ _ _ h
          refine ⟨o1.mono, fun ho ρ a w Q pre post => wp_scope_jump ?_⟩
          refine o1.wp ho ρ a w _ pre (fun ρ' a' w' hr hd hs => ?_)
          have hp := post ρ' a' w' hr hd hs
          cases e with
          | goto l => exact (hne l s' h).elim
          | norm => exact hp
          | exit i => exact hp
          | ret => exact hp
      · cases h
    ·
      intro all i rest s s' h
      unfold seqOps at h
      split at h
      · cases h
        exact ⟨.refl _, fun ho ρ a w Q pre post => post ρ a w pre.rel pre.defers (.refl pre.rep rfl)⟩
      · rename_i o rest
        split at h
        · rename_i s1 rest1 hfu
          exact fused_ok hfu (I.sq _ _ _ _ _ h)
        split at h
        · rename_i hw
          split at h
          · rename_i v h1 hop
            split at h
            · rename_i v' h2 hset
              have o1 := I.op _ _ _ _ _ hop
              have o2 := I.sq _ _ _ _ _ h
              obtain ⟨qs, hsv⟩ := settle_ok hset
              refine ⟨o1.mono.trans (qs.mono.trans o2.mono), fun ho ρ a w Q pre post => ?_⟩
              have ho2 : Obs h2 := ho.of o2.mono
              unfold wpList
              rw [wanted_ok hw pre.rel, if_pos rfl]
              left
              refine o1.wp (ho2.of qs.mono) ρ a w pre o Q _ rfl (fun ρ' x w' hx hs => ?_)
              have hs2 : Step E.P ρ s.hp w ρ' h2 w' := step_settle hs qs o1.mono
              have m2 := o1.mono.trans qs.mono
              exact o2.wp ho ρ' _ w' Q (pre.next hs2 m2 (relL_put o.dst (pre.rel.mono hs.le) (hsv ho2 ρ' x hx)) (by rw [put_defers]; exact pre.defers)) (post.step hs2 m2 o2.mono)
            · cases h
          · cases h
        · rename_i hw
          have o2 := I.sq _ _ _ _ _ h
          refine ⟨o2.mono, fun ho ρ a w Q pre post => ?_⟩
          unfold wpList
          rw [wanted_ok hw pre.rel, if_neg (by simp)]
          exact o2.wp ho ρ _ w Q ⟨relL_put o.dst pre.rel (undef_rel ρ), by rw [put_defers]; exact pre.defers, pre.rep, pre.fresh, pre.glob⟩ post
        · cases h
    ·
      intro tm op h v h' e
      simp only [oper] at e
      split at e
      · cases e
      · rename_i hc
        refine ⟨?_, ?_⟩
        · exact (op1_ok (P := E.P) (ρ := fun _ => none) (w := default) (o := ⟨none, op, 0, "", #[], none⟩) e).1
        · intro ho ρ a w pre o Q next hop hn
          subst hop
          exact wp_of_run ((op1_ok (P := E.P) (ρ := ρ) (w := w) e).2 ho pre.fresh pre.rep pre.glob a pre.rel) hn
      · rename_i f args hc
        have oc := I.ca _ _ _ _ _ e
        refine ⟨oc.mono, fun ho ρ a w pre o Q next hop hn => ?_⟩
        subst hop
        obtain ⟨xs, hxs, hrun⟩ := callee_ok H.good pre.glob (w := w) hc pre.rel
        unfold Oper.wp
        rw [hrun]
        simp only [Oper.upon]
        refine (oc.wp ho ρ w pre.rep pre.fresh pre.glob xs hxs).mono (fun e' w' ⟨x, ρ', he, hv, hs⟩ => ?_)
        subst he
        exact hn ρ' x w' hv hs
    ·
      intro f args h v h' e
      simp only [callF] at e
      split at e
      · rename_i r hs
        cases e
        unfold specTry at hs
        split at hs
        · rename_i g hg
          exact H.spec f g hg args h v h' hs
        · cases hs
      · split at e
        · rename_i fn hf
          split at e
          · rename_i c hc
            split at e
            · rename_i hk
              have body : ∀ e0 s0, exec E n c ⟨args ++ List.replicate (fn.ntmps - args.length) (.tup []), h⟩ = some (e0, s0) → (e0 = .norm ∨ e0 = .ret) → ∀ l h1, resultsA E.P s0.tmps fn.results.toList s0.hp = some (l, h1) → CaOk E.P f args h (oneOrAll l) h1 := by
                intro e0 s0 h0 he0 l h1 hres
                have o1 := I.ex _ _ _ _ h0
                have hqr : ∀ (ρ : Ren) (a : Act) (w : World), RelL ρ s0.tmps a.tmps.toList → Qt s0.hp h1 ∧ (Obs h1 → HeapRep E.P ρ s0.hp.heap w → ∃ xs, denL ρ l = some xs ∧ (fn.results.toList.mapM (resVal a.tmps)).run E.P w = .ok xs w) := fun ρ a w hr => results_ok hr fn.results.toList s0.hp h1 l hres
                have q : Qt s0.hp h1 := resultsA_qt hres
                refine ⟨o1.mono.trans q.mono, fun ho ρ w hr hf' hG xs hxs => ?_⟩
                refine calls_of_wp hf hc ?_
                have hlen := denL_length _ _ hxs
                have hrel : RelL ρ (args ++ List.replicate (fn.ntmps - args.length) (.tup [])) (xs.toArray ++ Array.replicate (fn.ntmps - xs.toArray.size) undef).toList := by
                  have h1 : (xs.toArray ++ Array.replicate (fn.ntmps - xs.toArray.size) undef).toList = xs ++ List.replicate (fn.ntmps - args.length) undef := by simp [hlen]
                  rw [h1]
                  refine relL_append (denL.rel hxs) ⟨by simp, fun k v hk => ?_⟩
                  rw [List.getElem?_replicate] at hk ⊢
                  split at hk
                  · rename_i hlt; cases hk; rw [if_pos hlt]; exact ⟨undef, rfl, undef_rel ρ⟩
                  · cases hk
                refine o1.wp (ho.of q.mono) ρ _ w _ ⟨hrel, rfl, hr, hf', hG⟩ (fun ρ' a' w' hr' hd' hs' => ?_)
                obtain ⟨_, hres'⟩ := hqr ρ' a' w' hr'
                obtain ⟨ys, hy1, hy2⟩ := hres' ho hs'.rep
                have hrun := results_run hy2
                have hfin : Step E.P ρ h w ρ' h1 w' := hs'.trans (.refl hs'.rep q.heap) o1.mono q.mono
                rcases he0 with rfl | rfl
                · exact ⟨hd', _, hrun, _, ρ', rfl, oneOrAll_den hy1, hfin⟩
                · exact ⟨hd', _, hrun, _, ρ', rfl, oneOrAll_den hy1, hfin⟩
              split at e
              · rename_i s0 h0
                split at e
                · rename_i l h1 hres; cases e; exact body _ _ h0 (.inl rfl) _ _ hres
                · cases e
              · rename_i s0 h0
                split at e
                · rename_i l h1 hres; cases e; exact body _ _ h0 (.inr rfl) _ _ hres
                · cases e
              · cases e
            · cases e
          · cases e
        · cases e

end Go.Ev
