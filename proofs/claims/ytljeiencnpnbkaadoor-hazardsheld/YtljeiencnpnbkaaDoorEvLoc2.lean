/-
  EvLoc2 and what follows it.
-/
import Derived.Test.YtljeiencnpnbkaaDoorEvCore
import Derived.Test.YtljeiencnpnbkaaDoorEvApp
import Derived.ProofKit
import Derived.ChangeSlices
import Derived.Carry
import Derived.WideShapes
import Derived.ChangeCalls
import Derived.MakeChecks
/-
  A loop seen under names of its own: the evaluator's step is sound.
-/
set_option linter.unusedSimpArgs false
set_option linter.unusedVariables false
namespace Go.Ev

theorem relL_mask {ρ : Ren} (keep : List Nat) {l : List AV} {xs : List Value} (h : RelL ρ l xs) : RelL ρ (mask keep l 0) xs := by
  obtain ⟨h1, h2⟩ := h
  refine ⟨by rw [mask_length, h1], fun k v hk => ?_⟩
  rw [mask_get] at hk
  cases hv : l[k]? with
  | none => rw [hv] at hk; cases hk
  | some u =>
    obtain ⟨x, hx, hr⟩ := h2 k u hv
    rw [hv] at hk
    simp only [Option.map_some, Option.some.injEq] at hk
    refine ⟨x, hx, ?_⟩
    subst hk
    split
    · exact hr
    · exact .inl rfl

theorem lpl_ok {P : Program} {body : Code} {keep r : List Nat} {p k : Nat} {e : Ex} {tm : List AV} {heap : List (Nat × AO)} {wr0 : List Nat} {s sl : St} {tmo : List AV} {hp : List (Nat × AO)} {wr : List Nat} {rest : List Hint} {ob : List Prop} {auto : Bool}
    (hin0 : loopIn keep r p s = some sl) (hout0 : loopOut r p k tm heap wr0 s = some (tmo, hp, wr)) (H : LoopHolds P body sl e ⟨tm, ⟨heap, r.length + 1 + k, gnm 0, [], [], wr0, false⟩⟩) :
    ∀ ρ a w Q, Pre P ρ s.tmps s.hp a w → Post P ρ s.hp w e ⟨tmo, ⟨hp, s.hp.nxt + k, s.hp.hi, rest, ob, addAll wr s.hp.wr, auto⟩⟩ Q → (Code.loop body).wp P Q a w := by
  intro ρ a w Q pre post
  unfold loopIn at hin0
  split at hin0
  case h_2 => cases hin0
  rename_i la rp hla hrp
  split at hin0
  case h_2 => cases hin0
  rename_i lh hlh hall hnd hgb
  cases hin0
  unfold loopOut at hout0
  split at hout0
  case h_2 => cases hout0
  rename_i tmo' hp' wr' hk htm hout hwr
  cases hout0
  obtain ⟨hr, hf, hg⟩ : HeapRep P ρ s.hp.heap w ∧ Fresh ρ s.hp.nxt s.hp.hi ∧ GOk ρ := ⟨pre.rep, pre.fresh, pre.glob⟩
  simp only [Bool.and_eq_true] at hk hgb
  have hhi : s.hp.hi ≤ gnm 0 := Nat.le_of_ble_eq_true hgb.2
  have hng := notGlobB_get r hgb.1
  have hnd := nodupB_nd r hnd
  have hk2 : r.length + 1 + k ≤ gnm 0 := Nat.le_of_ble_eq_true hk.1
  have hnx : s.hp.nxt + k ≤ s.hp.hi := Nat.le_of_ble_eq_true hk.2.1
  have hno := noneAt_get heap hk.2.2
  obtain ⟨hpl, hrp⟩ := takeN_eq p r rp hrp
  let ρl : Ren := fun l => if gnm 0 ≤ l then ρ l else match l with
    | 0 => none
    | m + 1 => match r[m]? with
      | some b => ρ b
      | none => none
  have hρg : ∀ l, gnm 0 ≤ l → ρl l = ρ l := fun l hl => by simp [ρl, hl]
  have hρi : ∀ m b, m + 1 < gnm 0 → r[m]? = some b → ρl (m + 1) = ρ b := fun m b hm hb => by
    have : ¬ gnm 0 ≤ m + 1 := by omega
    simp [ρl, this, hb]
  have hrl : ∀ m b, r[m]? = some b → m < r.length := fun m b hb => (List.getElem?_eq_some_iff.1 hb).1
  have H1 : ∀ n k, toLoc r n = some k → ρl k = ρ n := by
    intro n k hn
    rcases toLoc_spec hn with ⟨a, rfl⟩ | ⟨a, b, c⟩
    · exact hρg _ a
    · have := hrl _ _ c
      have := hρi (k - 1) n (by omega) c
      rw [← this]; congr 1; omega
  obtain ⟨g1, g2⟩ := locHeap_get rp lh hlh
  have hrep : HeapRep P ρl lh w := by
    refine ⟨fun k o' hk => ?_, fun k k2 o o2 l l2 ha hb hne hro hl hl2 hc hc2 => ?_⟩
    · obtain ⟨b, hb, o, q1, q2, q3⟩ := g2 k o' hk
      obtain ⟨l, hl, hob⟩ := hr.1 b o q2
      exact ⟨l, (H1 b k q1).trans hl, (renO_rep H1 q3 hob).1⟩
    · obtain ⟨b, hbm, p, q1, q2, q3⟩ := g2 k o ha
      obtain ⟨b', hbm', p', q1', q2', q3'⟩ := g2 k2 o2 hb
      obtain ⟨x1, hx1, hob1⟩ := hr.1 b p q2
      obtain ⟨x2, hx2, hob2⟩ := hr.1 b' p' q2'
      have e1 := (renO_rep H1 q3 hob1).2
      have e2 := (renO_rep H1 q3' hob2).2
      have hbb : b ≠ b' := fun x => by subst x; rw [q1] at q1'; cases q1'; exact hne rfl
      rw [H1 b k q1] at hl
      rw [H1 b' k2 q1'] at hl2
      exact hr.2 b b' p p' l l2 q2 q2' hbb (by rw [← e1, ← e2]; exact hro) hl hl2 hc hc2
  have hfr : Fresh ρl (r.length + 1) (gnm 0) := by
    intro n h1 h2
    have : ¬ gnm 0 ≤ n := by omega
    cases n with
    | zero => omega
    | succ m =>
      have hm : r[m]? = none := by simp; omega
      simp [ρl, this, hm]
  have hgl : GOk ρl := fun g => by
    obtain ⟨l, hl, q⟩ := hg g
    exact ⟨l, (hρg _ (by unfold gnm; omega)).trans hl, q⟩
  have hrel : RelL ρl la a.tmps.toList := by
    have q := relL_mask keep pre.rel
    obtain ⟨z1, z2⟩ := renL_get _ _ hla
    refine ⟨z1.trans q.1, fun j v' hj => ?_⟩
    obtain ⟨v, hv, hv'⟩ := z2 j v' hj
    obtain ⟨x, hx, hxr⟩ := q.2 j v hv
    exact ⟨x, hx, renV_rel H1 hv' hxr⟩
  refine H ρl a w Q ⟨hrel, pre.defers, hrep, hfr, hgl⟩ (fun ρl' a' w' hrel' hdef st => ?_)
  let ρ' : Ren := fun m => if s.hp.nxt ≤ m ∧ m < s.hp.nxt + k then ρl' (r.length + 1 + (m - s.hp.nxt)) else ρ m
  have hsome : ∀ b l, ρ b = some l → ¬ (s.hp.nxt ≤ b ∧ b < s.hp.nxt + k) := fun b l hb hn => by
    have := hf b hn.1 (by omega); rw [this] at hb; cases hb
  have hle : Le ρ ρ' := fun n l hn => by simp only [ρ']; rw [if_neg (hsome n l hn)]; exact hn
  have hin : ∀ b ∈ r, ∃ o l, get s.hp.heap b = some o ∧ ρ b = some l := fun b hb => by
    obtain ⟨o, q2⟩ := allIn_get r hall b hb
    obtain ⟨l, hl⟩ := hr.loc q2
    exact ⟨o, l, q2, hl⟩
  have H2 : ∀ l b, toOut r s.hp.nxt k l = some b → ρ' b = ρl' l := by
    intro l b hb
    rcases toOut_spec hb with ⟨a, rfl⟩ | ⟨a, m, rfl, hm | ⟨m1, m2, rfl⟩⟩
    · obtain ⟨L, hL, _⟩ := hg (b - gnm 0)
      have eb : gnm (b - gnm 0) = b := by unfold gnm at a ⊢; omega
      rw [eb] at hL
      rw [hle b L hL, st.le b L ((hρg b a).trans hL)]
    · obtain ⟨o, L, _, hL⟩ := hin b (List.mem_of_getElem? hm)
      rw [hle b L hL, st.le (m + 1) L ((hρi m b a hm).trans hL)]
    · simp only [ρ']
      rw [if_pos (by omega)]
      congr 1; omega
  have inj : ∀ i j b, i ≤ r.length + k → j ≤ r.length + k → 1 ≤ i → 1 ≤ j → toOut r s.hp.nxt k i = some b → toOut r s.hp.nxt k j = some b → i = j := by
    intro i j b hi hj hi1 hj1 e1 e2
    rcases toOut_spec e1 with ⟨a, _⟩ | ⟨_, m, rfl, hm⟩
    · omega
    rcases toOut_spec e2 with ⟨a, _⟩ | ⟨_, m', rfl, hm'⟩
    · omega
    rcases hm with hm | ⟨m1, m2, rfl⟩
    · rcases hm' with hm' | ⟨m1', m2', rfl⟩
      · obtain ⟨ha, ha'⟩ := List.getElem?_eq_some_iff.1 hm
        obtain ⟨hb, hb'⟩ := List.getElem?_eq_some_iff.1 hm'
        have := (List.getElem_inj hnd).1 (ha'.trans hb'.symm)
        omega
      · obtain ⟨o, L, _, hL⟩ := hin _ (List.mem_of_getElem? hm)
        exact (hsome _ L hL (by omega)).elim
    · rcases hm' with hm' | ⟨m1', m2', e3⟩
      · obtain ⟨o, L, _, hL⟩ := hin _ (List.mem_of_getElem? hm')
        exact (hsome _ L hL (by omega)).elim
      · omega
  obtain ⟨k1, k2⟩ := outHeapP_get _ hp hout inj
  -- what a local name with an object stands for
  have loc : ∀ m o1, get lh m = some o1 → ∃ b o2, toOut r s.hp.nxt k m = some b ∧ 1 ≤ m ∧ m ≤ p ∧ m ≤ r.length ∧ get s.hp.heap b = some o2 ∧ o1.ro = o2.ro ∧ ρl m = ρ b := by
    intro m o1 hm
    obtain ⟨b, hb, o2, q1, q2, q3⟩ := g2 m o1 hm
    rw [hrp] at hb
    have hbr : b ∈ r := List.mem_of_mem_take hb
    have hbl := hng b hbr
    rcases toLoc_spec q1 with ⟨a, rfl⟩ | ⟨a, c, d⟩
    · omega
    · have hm1 := hrl _ _ d
      refine ⟨b, o2, toOut_old c (by omega) d, c, ?_, by omega, q2, (renO_rep H1 q3 (hr.1 b o2 q2).choose_spec.2).2, H1 b m q1⟩
      obtain ⟨i, hi, hib⟩ := List.mem_take_iff_getElem.1 hb
      obtain ⟨hd1, hd2⟩ := List.getElem?_eq_some_iff.1 d
      have := (List.getElem_inj hnd (h₀ := by omega) (h₁ := hd1)).1 (hib.trans hd2.symm)
      omega
  have wrin : ∀ m ∈ wr0, m < gnm 0 ∧ ∃ b, toOut r s.hp.nxt k m = some b ∧ b ∈ wr := outNames_get _ _ hwr
  have stay : ∀ b o L, (∀ l, 1 ≤ l → l ≤ r.length + k → ¬ (p < l ∧ l ≤ r.length) → toOut r s.hp.nxt k l ≠ some b) → get s.hp.heap b = some o → ρ b = some L → L.cap ≠ 0 → w'.heap[L.blk]? = w.heap[L.blk]? := by
    intro b o L hb hgb hL hc
    obtain ⟨L', hL', hob⟩ := hr.1 b o hgb
    rw [hL] at hL'; cases hL'
    refine st.fr.same L.blk (hob.lt hc) ?_
    rintro ⟨m, hm, o1, L1, y1, y2, y3, y4, y5⟩
    obtain ⟨b1, o2, z1, z2, z3, z33, z4, z5, z6⟩ := loc m o1 y1
    have hne : b1 ≠ b := fun x => by subst x; exact hb m z2 (by omega) (by omega) z1
    rw [z6] at y3
    exact hr.2 b1 b o2 o L1 L z4 hgb hne (by rw [← z5, y2]; rfl) y3 hL y4 hc y5
  have apart : ∀ l o' L1 b2 o2 L2, get heap l = some o' → ρl' l = some L1 → L1.cap ≠ 0 → (∀ l, 1 ≤ l → l ≤ r.length + k → ¬ (p < l ∧ l ≤ r.length) → toOut r s.hp.nxt k l ≠ some b2) → get s.hp.heap b2 = some o2 → ρ b2 = some L2 → L2.cap ≠ 0 →
      (o'.ro && o2.ro) = false → L1.blk ≠ L2.blk := by
    intro l o' L1 b2 o2 L2 hgl hL1 hc1 hb2 hg2 hL2 hc2 hro heq
    obtain ⟨L', hL', hob⟩ := hr.1 b2 o2 hg2
    rw [hL2] at hL'; cases hL'
    have hlt := hob.lt hc2
    obtain ⟨m, o3, L3, y1, y2, y3, y4, y5, y6⟩ := st.own l o' L1 hgl hL1 hc1 (by rw [heq]; exact hlt)
    obtain ⟨b1, o4, z1, z2, z3, z33, z4, z5, z6⟩ := loc m o3 y1
    have hne : b1 ≠ b2 := fun x => by subst x; exact hb2 m z2 (by omega) (by omega) z1
    rw [z6] at y3
    exact hr.2 b1 b2 o4 o2 L3 L2 z4 hg2 hne (by rw [← z5, y2]; exact hro) y3 hL2 y4 hc2 (y5.trans heq)
  have kind : ∀ b o, get hp b = some o → (∃ l o' , 1 ≤ l ∧ l ≤ r.length + k ∧ ¬ (p < l ∧ l ≤ r.length) ∧ toOut r s.hp.nxt k l = some b ∧ get heap l = some o' ∧ renO (toOut r s.hp.nxt k) o' = some o ∧ ∃ L, ρl' l = some L ∧ ObjRep P ρ' w' L o ∧ o.ro = o'.ro) ∨
      ((∀ l, 1 ≤ l → l ≤ r.length + k → ¬ (p < l ∧ l ≤ r.length) → toOut r s.hp.nxt k l ≠ some b) ∧ get s.hp.heap b = some o) := by
    intro b o hb
    by_cases hex : ∃ l, 1 ≤ l ∧ l ≤ r.length + k ∧ ¬ (p < l ∧ l ≤ r.length) ∧ toOut r s.hp.nxt k l = some b
    · obtain ⟨l, h1, h2, h4, h3⟩ := hex
      obtain ⟨c, hc, q⟩ := k1 l h1 h2 h4
      rw [h3] at hc; cases hc
      obtain ⟨o', q1, q2⟩ := q o hb
      obtain ⟨L, hL, hob⟩ := st.rep.1 l o' q1
      obtain ⟨z1, z2⟩ := renO_rep H2 q2 hob
      exact .inl ⟨l, o', h1, h2, h4, h3, q1, q2, L, hL, z1, z2⟩
    · have hno : ∀ l, 1 ≤ l → l ≤ r.length + k → ¬ (p < l ∧ l ≤ r.length) → toOut r s.hp.nxt k l ≠ some b := fun l h1 h2 h4 h3 => hex ⟨l, h1, h2, h4, h3⟩
      exact .inr ⟨hno, (k2 b hno) ▸ hb⟩
  refine post ρ' a' w' ?_ hdef ⟨hle, fun n l h1 h2 => ?_, ⟨fun b o hb => ?_, fun b c o1 o2 L1 L2 hb hc hne hro hL1 hL2 hc1 hc2 => ?_⟩, ⟨st.fr.size, fun b hb hn => st.fr.same b hb ?_, st.fr.tape, st.fr.os, st.fr.output⟩, fun b o L hb hL hc hlt => ?_⟩
  · obtain ⟨z1, z2⟩ := renL_get _ _ htm
    refine ⟨z1.trans hrel'.1, fun j v' hj => ?_⟩
    obtain ⟨v, hv, hv'⟩ := z2 j v' hj
    obtain ⟨x, hx, hxr⟩ := hrel'.2 j v hv
    exact ⟨x, hx, renV_rel H2 hv' hxr⟩
  · simp only [ρ'] at h2
    split at h2
    · rename_i hh; exact hh
    · rw [h1] at h2; cases h2
  · rcases kind b o hb with ⟨l, o', a1, a2, a0, a3, a4, a5, L, a6, a7, _⟩ | ⟨a1, a2⟩
    · exact ⟨L, (H2 l b a3).trans a6, a7⟩
    · obtain ⟨L, hL, hob⟩ := hr.1 b o a2
      exact ⟨L, hle b L hL, hob.keep hle (fun hc => stay b o L a1 a2 hL hc)⟩
  · rcases kind b o1 hb with ⟨l, o', a1, a2, a0, a3, a4, a5, L, a6, a7, a8⟩ | ⟨a1, a2⟩
    · rw [H2 l b a3, a6] at hL1; cases hL1
      rcases kind c o2 hc with ⟨l', o'', b1, b2, b0, b3, b4, b5, L', b6, b7, b8⟩ | ⟨b1, b2⟩
      · rw [H2 l' c b3, b6] at hL2; cases hL2
        have hll : l ≠ l' := fun x => by subst x; rw [a3] at b3; cases b3; exact hne rfl
        exact st.rep.2 l l' o' o'' _ _ a4 b4 hll (by rw [← a8, ← b8]; exact hro) a6 b6 hc1 hc2
      · obtain ⟨L', hL', _⟩ := hr.1 c o2 b2
        rw [hle c L' hL'] at hL2; cases hL2
        exact apart l o' _ c o2 _ a4 a6 hc1 b1 b2 hL' hc2 (by rw [← a8]; exact hro)
    · obtain ⟨L, hL, _⟩ := hr.1 b o1 a2
      rw [hle b L hL] at hL1; cases hL1
      rcases kind c o2 hc with ⟨l', o'', b1, b2, b0, b3, b4, b5, L', b6, b7, b8⟩ | ⟨b1, b2⟩
      · rw [H2 l' c b3, b6] at hL2; cases hL2
        exact (apart l' o'' _ b o1 _ b4 b6 hc2 a1 a2 hL hc1 (by rw [← b8, Bool.and_comm]; exact hro)).symm
      · obtain ⟨L', hL', _⟩ := hr.1 c o2 b2
        rw [hle c L' hL'] at hL2; cases hL2
        exact hr.2 b c o1 o2 _ _ a2 b2 hne hro hL hL' hc1 hc2
  · rintro ⟨m, hm, o1, L1, y1, y2, y3, y4, y5⟩
    obtain ⟨hlt, c, hc, hcw⟩ := wrin m hm
    obtain ⟨b1, o2, z1, z2, z3, z33, z4, z5, z6⟩ := loc m o1 y1
    rw [hc] at z1; cases z1
    rw [z6] at y3
    exact hn ⟨c, mem_addAll.2 (.inl hcw), o2, L1, z4, z5.symm.trans y2, y3, y4, y5⟩
  · rcases kind b o hb with ⟨l, o', a1, a2, a0, a3, a4, a5, L', a6, a7, a8⟩ | ⟨a1, a2⟩
    · rw [H2 l b a3, a6] at hL; cases hL
      obtain ⟨m, o3, L3, y1, y2, y3, y4, y5, y6⟩ := st.own l o' _ a4 a6 hc hlt
      obtain ⟨b1, o4, z1, z2, z3, z33, z4, z5, z6⟩ := loc m o3 y1
      rw [z6] at y3
      refine ⟨b1, o4, L3, z4, (z5.symm.trans y2).trans a8.symm, y3, y4, y5, ?_⟩
      rcases y6 with rfl | y6
      · rw [a3] at z1; cases z1; exact .inl rfl
      · obtain ⟨_, c, hc', hcw⟩ := wrin m y6
        rw [hc'] at z1; cases z1
        exact .inr (mem_addAll.2 (.inl hcw))
    · obtain ⟨L', hL', _⟩ := hr.1 b o a2
      rw [hle b L' hL'] at hL; cases hL
      exact ⟨b, o, _, a2, rfl, hL', hc, rfl, .inl rfl⟩
end Go.Ev

/-
  THE EVALUATOR IS SOUND: what it says of code, and of a call, holds of the machine.
-/
set_option linter.unusedSimpArgs false
set_option linter.unusedVariables false
namespace Go.Ev

structure AllOk (E : Env) (n : Nat) : Prop where
  ex : ∀ c s e s', exec E n c s = some (e, s') → ExOk E.P c s e s'
  lp : ∀ c s e s', loopX E n c s = some (e, s') → LpOk E.P n c s e s'
  sq : ∀ all i rest s s', seqOps E n all i rest s = some s' → SqOk E.P all rest s s'
  op : ∀ tm op h v h', oper E n tm op h = some (v, h') → OpOk E.P tm op h v h'
  ca : ∀ f args h v h', callF E n f args h = some (v, h') → CaOk E.P f args h v h'

/-- The machine behind a scope into which one jumps. -/
def Exit.inner (P : Program) (body : Code) (Q : Exit → Act → World → Prop) : Exit → Act → World → Prop
  | .goto l, a, w => match findLabel body l with
    | some rest => rest.wp P (Exit.noGoto Q) a w
    | none => Q (.goto l) a w
  | e, a, w => Q e a w

theorem wp_scope_jump {P : Program} {Q : Exit → Act → World → Prop} {a : Act} {w : World} {c : Code} (h : c.wp P (Exit.inner P c Q) a w) : (Code.scope c).wp P Q a w := by
  intro b k cs
  obtain ⟨e, a₁, w₁, hq, harr⟩ := h b (.inScope c :: k) cs
  cases e with
  | normal => exact ⟨.normal, a₁, w₁, hq, .head step_scope (Steps.trans harr (.one step_inScope))⟩
  | exit id => exact ⟨.exit id, a₁, w₁, hq, fun k' hk => .head step_scope (harr k' (by simp [exitTo, hk]))⟩
  | ret => exact ⟨_, a₁, w₁, hq, .of_steps (.one step_scope) harr⟩
  | panic ch => exact ⟨_, a₁, w₁, hq, .of_steps (.one step_scope) harr⟩
  | outgrown => exact ⟨_, a₁, w₁, hq, .of_steps (.one step_scope) harr⟩
  | goto l =>
    simp only [Exit.inner] at hq
    cases hf : findLabel c l with
    | none =>
      rw [hf] at hq
      exact ⟨.goto l, a₁, w₁, hq, fun k' hk => .head step_scope (harr k' (by simp [gotoIn, hf, hk]))⟩
    | some rest =>
      rw [hf] at hq
      have hjump : Steps P (lone (b.at a (.code (.scope c) :: k)) cs w) (lone (b.at a₁ (.code rest :: .inScope c :: k)) cs w₁) := .head step_scope (harr _ (by simp [gotoIn, hf]))
      obtain ⟨e₂, a₂, w₂, hq₂, harr₂⟩ := hq b (.inScope c :: k) cs
      cases e₂ with
      | normal => exact ⟨.normal, a₂, w₂, hq₂, hjump.trans (Steps.trans harr₂ (.one step_inScope))⟩
      | exit id => exact ⟨.exit id, a₂, w₂, hq₂, fun k' hk => hjump.trans (harr₂ k' (by simp [exitTo, hk]))⟩
      | goto l => exact hq₂.elim
      | ret => exact ⟨_, a₂, w₂, hq₂, .of_steps hjump harr₂⟩
      | panic ch => exact ⟨_, a₂, w₂, hq₂, .of_steps hjump harr₂⟩
      | outgrown => exact ⟨_, a₂, w₂, hq₂, .of_steps hjump harr₂⟩

theorem exOf_then {next : Act → World → Prop} {Q : Exit → Act → World → Prop} {e : Ex} {a : Act} {w : World} (hn : e = .norm → next a w) (hq : e ≠ .norm → Q (exOf e) a w) : Exit.then next Q (exOf e) a w := by
  cases e with
  | norm => exact hn rfl
  | exit id => exact hq (by simp)
  | goto l => exact hq (by simp)
  | ret => exact hq (by simp)

theorem Post.step {P : Program} {ρ ρ' : Ren} {h h1 : Hp} {w w1 : World} {e : Ex} {s' : St} {Q : Exit → Act → World → Prop} (p : Post P ρ h w e s' Q) (st : Step P ρ h w ρ' h1 w1) (m : Mono h h1) (m' : Mono h1 s'.hp) : Post P ρ' h1 w1 e s' Q :=
  fun ρ'' a' w' hr hd hs => p ρ'' a' w' hr hd (st.trans hs m m')

theorem notTmp_ne {d : Nat} {v : Operand} (h : notTmp d v = true) : v ≠ .tmp d := by
  intro e; subst e; simp [notTmp] at h

theorem eval_put {a : Act} {d : Nat} {x : Value} {v : Operand} (h : v ≠ .tmp d) : (a.put (some d) x).eval v = a.eval v := by
  cases v with
  | tmp y =>
    have hy : d ≠ y := fun e => h (by rw [e])
    simp [Act.eval, Act.put, Array.getElem?_setIfInBounds_ne hy, Array.getD_eq_getD_getElem?]
  | const v => rfl
  | global g => rfl
  | func f => rfl

theorem eval_put_same {a : Act} {d : Nat} {x : Value} (h : d < a.tmps.size) : (a.put (some d) x).eval (.tmp d) = x := by
  simp [Act.eval, Act.put, h, Array.getD_eq_getD_getElem?]

theorem fuse_eq {l rest : List Oper} {t : TypeId} {x d e : Nat} {k v : Operand} (h : fuse l = some (t, x, k, v, d, e, rest)) : ∃ y1 p1 a1 y2 p2 a2 y3 p3 a3,
    l = ⟨some d, .mapEntry t (.tmp x) k, y1, p1, a1, none⟩ :: ⟨some e, .extract (.tmp d) 1, y2, p2, a2, none⟩ :: ⟨none, .entryStore t (.tmp x) (.tmp e) v, y3, p3, a3, none⟩ :: rest ∧ x ≠ d ∧ x ≠ e ∧ v ≠ .tmp d ∧ v ≠ .tmp e ∧ d ≠ e := by
  unfold fuse at h
  split at h
  · split at h
    · rename_i h1 h2 h3 h4 h5 h6 h7 h8 h9
      cases h
      have h1 := Nat.eq_of_beq_eq_true h1; subst h1
      have h2 := Nat.eq_of_beq_eq_true h2; subst h2
      have h3 := Nat.eq_of_beq_eq_true h3; subst h3
      have h4 := Nat.eq_of_beq_eq_true h4; subst h4
      refine ⟨_, _, _, _, _, _, _, _, _, rfl, fun e => ?_, fun e => ?_, notTmp_ne h7, notTmp_ne h8, fun e => ?_⟩
      · subst e; simp at h5
      · subst e; simp at h6
      · subst e; simp at h9
    · cases h
  · cases h

theorem wanted_none {all : Array Oper} {tm : Array Value} {d : Option Tmp} {op : Op} {y : TypeId} {p : String} {af : Array Edge} : Region.wanted ⟨d, op, y, p, af, none⟩ (yielded all tm) = true := by
  simp [Region.wanted]

theorem fused_ok {P : Program} {all l rest : List Oper} {s s1 s' : St} (h : fused P s l = some (s1, rest)) (o2 : SqOk P all rest s1 s') : SqOk P all l s s' := by
  unfold fused at h
  split at h
  · rename_i t x k v d e rest1 hf
    obtain ⟨y1, p1, a1, y2, p2, a2, y3, p3, a3, rfl, hxd, hxe, hvd, hve, hde⟩ := fuse_eq hf
    split at h
    · rename_i m kv vv dv ev ks agg vk hm hk hv hd he hmk
      split at h
      · rename_i z0 h1 hz hu
        cases h
        have m1 := (update_ok (ρ := fun _ => none) (w := default) hu).1
        refine ⟨m1.trans o2.mono, fun ho ρ a w Q pre post => ?_⟩
        have hM := (by
          have := evA_ok pre.glob (show evA s.tmps (.tmp x) = some m from hm) pre.rel
          exact this : relS ρ m (a.eval (.tmp x)))
        have hK := evA_ok pre.glob hk pre.rel
        have hV := evA_ok pre.glob hv pre.rel
        obtain ⟨X, S, w1, w2, r1, r2, st⟩ := entry_ok hu hmk hz pre.rep hM hK hV
        have hlen := pre.rel.1
        have hdl : d < a.tmps.size := by
          rw [nth_eq] at hd
          have := (List.getElem?_eq_some_iff.1 hd).1
          simp at hlen; omega
        have hel : e < (a.put (some d) (.tuple #[X, goInt S])).tmps.size := by
          rw [nth_eq] at he
          have := (List.getElem?_eq_some_iff.1 he).1
          simp at hlen; simp [Act.put]; omega
        let b1 := a.put (some d) (.tuple #[X, goInt S])
        let b2 := b1.put (some e) (goInt S)
        unfold wpList
        rw [wanted_none, if_pos rfl]
        left
        have e1 : (execOp a.eval ⟨some d, .mapEntry t (.tmp x) k, y1, p1, a1, none⟩).run P w = .ok (.value (.tuple #[X, goInt S])) w1 := by
          simp [execOp, r1]
        unfold Oper.wp
        rw [e1]
        show wpList P all.toArray Q _ b1 w1
        unfold wpList
        rw [wanted_none, if_pos rfl]
        left
        have e2 : (execOp b1.eval ⟨some e, .extract (.tmp d) 1, y2, p2, a2, none⟩).run P w1 = .ok (.value (goInt S)) w1 := by
          have : b1.eval (.tmp d) = .tuple #[X, goInt S] := eval_put_same hdl
          simp [execOp, this, Instr.extract]
        unfold Oper.wp
        rw [e2]
        show wpList P all.toArray Q _ b2 w1
        unfold wpList
        rw [wanted_none, if_pos rfl]
        left
        have e3 : (execOp b2.eval ⟨none, .entryStore t (.tmp x) (.tmp e) v, y3, p3, a3, none⟩).run P w1 = .ok .skip w2 := by
          have q1 : b2.eval (.tmp x) = a.eval (.tmp x) := (eval_put (by simpa using hxe)).trans (eval_put (by simpa using hxd))
          have q2 : b2.eval (.tmp e) = goInt S := eval_put_same hel
          have q3 : b2.eval v = a.eval v := (eval_put hve).trans (eval_put hvd)
          simp [execOp, q1, q2, q3, r2]
        unfold Oper.wp
        rw [e3]
        show wpList P all.toArray Q rest b2 w2
        have hrel : RelL ρ (setNth (setNth s.tmps d .top) e .top) b2.tmps.toList :=
          relL_put (v := .top) (some e) (relL_put (v := .top) (some d) pre.rel (.inl rfl)) (.inl rfl)
        exact o2.wp ho ρ b2 w2 Q (pre.next st m1 hrel (by rw [put_defers, put_defers]; exact pre.defers)) (post.step st m1 o2.mono)
      · cases h
    · cases h
  · cases h

theorem all_ok {E : Env} (H : EnvOk E) : ∀ n, AllOk E n := by
  intro n
  induction n using Nat.strongRecOn with
  | _ n IH =>
  cases n with
  | zero => exact ⟨fun c s e s' h => by simp [exec] at h, fun c s e s' h => by simp [loopX] at h, fun all i rest s s' h => by simp [seqOps] at h, fun tm op h v h' e => by simp [oper] at e, fun f args h v h' e => by simp [callF] at e⟩
  | succ n =>
    have I := IH n (by omega)
    -- loops
    have hlp : ∀ c s e s', loopX E (n + 1) c s = some (e, s') → LpOk E.P (n + 1) c s e s' := by
      intro c s e s' h
      simp only [loopX] at h
      split at h
      · rename_i s1 h1
        have o1 := I.ex _ _ _ _ h1
        have o2 := I.lp _ _ _ _ h
        refine ⟨o1.mono.trans o2.mono, fun ho ρ a w Q pre post => ?_⟩
        rw [rounds_succ]
        refine o1.wp (ho.of o2.mono) ρ a w _ pre (fun ρ' a' w' hr hd hs => ?_)
        exact o2.wp ho ρ' a' w' Q (pre.next hs o1.mono hr hd) (post.step hs o1.mono o2.mono)
      · rename_i hne
        have o1 := I.ex _ _ _ _ h
        refine ⟨o1.mono, fun ho ρ a w Q pre post => ?_⟩
        rw [rounds_succ]
        refine o1.wp ho ρ a w _ pre (fun ρ' a' w' hr hd hs => exOf_then (fun he => ?_) (fun _ => post ρ' a' w' hr hd hs))
        subst he
        exact (hne s' h).elim
    refine ⟨?_, hlp, ?_, ?_, ?_⟩
    ·
      intro c s e s' h
      unfold exec at h
      split at h
      · cases h; exact ⟨.refl _, fun ho ρ a w Q pre post => wp_skip (post ρ a w pre.rel pre.defers (.refl pre.rep rfl))⟩
      · cases h; exact ⟨.refl _, fun ho ρ a w Q pre post => wp_label (post ρ a w pre.rel pre.defers (.refl pre.rep rfl))⟩
      · rename_i id ops draw
        split at h
        · split at h
          · rename_i s1 h1
            cases h
            have o1 := I.sq _ _ _ _ _ h1
            exact ⟨o1.mono, fun ho ρ a w Q pre post => wp_region_list (by have := o1.wp ho ρ a w Q pre post; simpa using this)⟩
          · cases h
        · split at h
          · rename_i ancs hs rest hanc hnode
            simp only [fNat_eq] at h
            split at h
            · rename_i ds s1 hd
              split at h
              · rename_i hord
                cases h
                exact draw_region H.good (m := n) (s1 := { s with hp := { s.hp with hints := rest } }) (fun m' tm op hp v h' hm => (IH m' (by omega)).op tm op hp v h') hanc rfl rfl rfl rfl rfl rfl hd hord
              · cases h
            · cases h
          · cases h
      · rename_i c1 c2
        split at h
        · rename_i s1 h1
          simp only [fSt_eq] at h
          have o1 := I.ex _ _ _ _ h1
          have o2 := I.ex _ _ _ _ h
          refine ⟨o1.mono.trans o2.mono, fun ho ρ a w Q pre post => wp_seq ?_⟩
          refine o1.wp (ho.of o2.mono) ρ a w _ pre (fun ρ' a' w' hr hd hs => ?_)
          exact o2.wp ho ρ' a' w' Q (pre.next hs o1.mono hr hd) (post.step hs o1.mono o2.mono)
        · rename_i hne
          have o1 := I.ex _ _ _ _ h
          refine ⟨o1.mono, fun ho ρ a w Q pre post => wp_seq ?_⟩
          refine o1.wp ho ρ a w _ pre (fun ρ' a' w' hr hd hs => exOf_then (fun he => ?_) (fun _ => post ρ' a' w' hr hd hs))
          subst he
          exact (hne s' h).elim
      · rename_i x c1 c2
        split at h
        · rename_i v hv
          split at h
          · rename_i h1 hd
            obtain ⟨q, o⟩ := dec_qt hd
            have o1 := I.ex _ _ _ _ h
            refine ⟨q.mono.trans o1.mono, fun ho ρ a w Q pre post => ?_⟩
            have hb : a.eval x = .bool true := by
              have h2 := evA_ok pre.glob hv pre.rel
              rcases o (ho.of o1.mono) with rfl | rfl <;> (have := relS_den h2 (by simp); simp [den] at this; exact this.symm)
            have st : Step E.P ρ s.hp w ρ h1 w := .refl pre.rep q.heap
            exact wp_cond_true hb (o1.wp ho ρ a w Q (pre.next st q.mono pre.rel pre.defers) (post.step st q.mono o1.mono))
          · rename_i h1 hd
            obtain ⟨q, o⟩ := dec_qt hd
            have o1 := I.ex _ _ _ _ h
            refine ⟨q.mono.trans o1.mono, fun ho ρ a w Q pre post => ?_⟩
            have hb : a.eval x = .bool false := by
              have h2 := evA_ok pre.glob hv pre.rel
              rcases o (ho.of o1.mono) with rfl | rfl <;> (have := relS_den h2 (by simp); simp [den] at this; exact this.symm)
            have st : Step E.P ρ s.hp w ρ h1 w := .refl pre.rep q.heap
            exact wp_cond_false hb (o1.wp ho ρ a w Q (pre.next st q.mono pre.rel pre.defers) (post.step st q.mono o1.mono))
          · cases h
        · cases h
      · rename_i id body
        split at h
        · rename_i i s1 h1
          have o1 := I.ex _ _ _ _ h1
          split at h
          · rename_i hb
            cases h
            have hb := Nat.eq_of_beq_eq_true hb; subst hb
            refine ⟨o1.mono, fun ho ρ a w Q pre post => wp_block ?_⟩
            refine o1.wp ho ρ a w _ pre (fun ρ' a' w' hr hd hs => ?_)
            simp only [exOf, Exit.inBlock, if_true]
            exact post ρ' a' w' hr hd hs
          · rename_i hb
            cases h
            have hb : i ≠ id := by intro e; subst e; simp at hb
            refine ⟨o1.mono, fun ho ρ a w Q pre post => wp_block ?_⟩
            refine o1.wp ho ρ a w _ pre (fun ρ' a' w' hr hd hs => ?_)
            simp only [exOf, Exit.inBlock, hb, if_false]
            exact post ρ' a' w' hr hd hs
        · rename_i hne
          have o1 := I.ex _ _ _ _ h
          refine ⟨o1.mono, fun ho ρ a w Q pre post => wp_block ?_⟩
          refine o1.wp ho ρ a w _ pre (fun ρ' a' w' hr hd hs => ?_)
          have hp := post ρ' a' w' hr hd hs
          cases e with
          | exit i => exact (hne i s' h).elim
          | norm => exact hp
          | goto l => exact hp
          | ret => exact hp
      · rename_i body
        split at h
        · split at h
          · rename_i hle
            cases h
            refine ⟨⟨fun p hp => List.mem_cons_of_mem _ hp, by simpa [Nat.ble_eq] using hle, rfl, fun n hn => mem_addAll.2 (.inr hn)⟩, fun ho ρ a w Q pre post => ?_⟩
            have hl := H.loops _ _ _ _ (ho _ (List.mem_cons_self ..))
            exact hl ρ a w Q ⟨relL_mask _ pre.rel, pre.defers, pre.rep, pre.fresh, pre.glob⟩ (fun ρ' a' w' hr hd hs => post ρ' a' w' hr hd ⟨hs.le, hs.new, hs.rep, hs.fr, hs.own⟩)
          · cases h
        · split at h
          case h_2 => cases h
          split at h
          · rename_i hin hout
            cases h
            refine ⟨⟨fun p hp => List.mem_cons_of_mem _ hp, Nat.le_add_right _ _, rfl, fun n hn => mem_addAll.2 (.inr hn)⟩, fun ho => ?_⟩
            exact lpl_ok hin hout (H.loops _ _ _ _ (ho _ (List.mem_cons_self ..)))
          · cases h
        · rename_i r hh
          have o := I.lp body _ e s' h
          have q : Qt s.hp { s.hp with hints := r } := ⟨rfl, rfl, rfl, rfl, fun p hp => hp⟩
          refine ⟨q.mono.trans o.mono, fun ho ρ a w Q pre post => wp_loop_rounds n ?_⟩
          have st : Step E.P ρ s.hp w ρ { s.hp with hints := r } w := .refl pre.rep q.heap
          exact o.wp ho ρ a w Q (pre.next st q.mono pre.rel pre.defers) (post.step st q.mono o.mono)
        · have o := I.lp body s e s' h
          exact ⟨o.mono, fun ho ρ a w Q pre post => wp_loop_rounds n (o.wp ho ρ a w Q pre post)⟩
      · cases h; exact ⟨.refl _, fun ho ρ a w Q pre post => wp_exit (post ρ a w pre.rel pre.defers (.refl pre.rep rfl))⟩
      · cases h; exact ⟨.refl _, fun ho ρ a w Q pre post => wp_goto (post ρ a w pre.rel pre.defers (.refl pre.rep rfl))⟩
      · cases h; exact ⟨.refl _, fun ho ρ a w Q pre post => wp_ret (post ρ a w pre.rel pre.defers (.refl pre.rep rfl))⟩
      · rename_i body
        split at h
        · rename_i l s1 h1
          have o1 := I.ex _ _ _ _ h1
          split at h
          · rename_i rest hf
            split at h
            · cases h
            · rename_i hng
              have o2 := I.ex _ _ _ _ h
              refine ⟨o1.mono.trans o2.mono, fun ho ρ a w Q pre post => wp_scope_jump ?_⟩
              refine o1.wp (ho.of o2.mono) ρ a w _ pre (fun ρ' a' w' hr hd hs => ?_)
              simp only [exOf, Exit.inner, hf]
              refine o2.wp ho ρ' a' w' _ (pre.next hs o1.mono hr hd) (fun ρ'' a'' w'' hr' hd' hs' => ?_)
              have hp := post ρ'' a'' w'' hr' hd' (hs.trans hs' o1.mono o2.mono)
              cases e with
              | goto l' => exact (hng l' s' h).elim
              | norm => exact hp
              | exit i => exact hp
              | ret => exact hp
          · rename_i hf
            cases h
            refine ⟨o1.mono, fun ho ρ a w Q pre post => wp_scope_jump ?_⟩
            refine o1.wp ho ρ a w _ pre (fun ρ' a' w' hr hd hs => ?_)
            simp only [exOf, Exit.inner, hf]
            exact post ρ' a' w' hr hd hs
        · rename_i hne
          have o1 := I.ex _ _ _ _ h
          refine ⟨o1.mono, fun ho ρ a w Q pre post => wp_scope_jump ?_⟩
          refine o1.wp ho ρ a w _ pre (fun ρ' a' w' hr hd hs => ?_)
          have hp := post ρ' a' w' hr hd hs
          cases e with
          | goto l => exact (hne l s' h).elim
          | norm => exact hp
          | exit i => exact hp
          | ret => exact hp
      · cases h
    ·
      intro all i rest s s' h
      unfold seqOps at h
      split at h
      · cases h
        exact ⟨.refl _, fun ho ρ a w Q pre post => post ρ a w pre.rel pre.defers (.refl pre.rep rfl)⟩
      · rename_i o rest
        split at h
        · rename_i s1 rest1 hfu
          exact fused_ok hfu (I.sq _ _ _ _ _ h)
        split at h
        · rename_i hw
          split at h
          · rename_i v h1 hop
            split at h
            · rename_i v' h2 hset
              have o1 := I.op _ _ _ _ _ hop
              have o2 := I.sq _ _ _ _ _ h
              obtain ⟨qs, hsv⟩ := settle_ok hset
              refine ⟨o1.mono.trans (qs.mono.trans o2.mono), fun ho ρ a w Q pre post => ?_⟩
              have ho2 : Obs h2 := ho.of o2.mono
              unfold wpList
              rw [wanted_ok hw pre.rel, if_pos rfl]
              left
              refine o1.wp (ho2.of qs.mono) ρ a w pre o Q _ rfl (fun ρ' x w' hx hs => ?_)
              have hs2 : Step E.P ρ s.hp w ρ' h2 w' := step_settle hs qs o1.mono
              have m2 := o1.mono.trans qs.mono
              exact o2.wp ho ρ' _ w' Q (pre.next hs2 m2 (relL_put o.dst (pre.rel.mono hs.le) (hsv ho2 ρ' x hx)) (by rw [put_defers]; exact pre.defers)) (post.step hs2 m2 o2.mono)
            · cases h
          · cases h
        · rename_i hw
          have o2 := I.sq _ _ _ _ _ h
          refine ⟨o2.mono, fun ho ρ a w Q pre post => ?_⟩
          unfold wpList
          rw [wanted_ok hw pre.rel, if_neg (by simp)]
          exact o2.wp ho ρ _ w Q ⟨relL_put o.dst pre.rel (undef_rel ρ), by rw [put_defers]; exact pre.defers, pre.rep, pre.fresh, pre.glob⟩ post
        · cases h
    ·
      intro tm op h v h' e
      simp only [oper] at e
      split at e
      · cases e
      · rename_i hc
        refine ⟨?_, ?_⟩
        · exact (op1_ok (P := E.P) (ρ := fun _ => none) (w := default) (o := ⟨none, op, 0, "", #[], none⟩) e).1
        · intro ho ρ a w pre o Q next hop hn
          subst hop
          exact wp_of_run ((op1_ok (P := E.P) (ρ := ρ) (w := w) e).2 ho pre.fresh pre.rep pre.glob a pre.rel) hn
      · rename_i f args hc
        have oc := I.ca _ _ _ _ _ e
        refine ⟨oc.mono, fun ho ρ a w pre o Q next hop hn => ?_⟩
        subst hop
        obtain ⟨xs, hxs, hrun⟩ := callee_ok H.good pre.glob (w := w) hc pre.rel
        unfold Oper.wp
        rw [hrun]
        simp only [Oper.upon]
        refine (oc.wp ho ρ w pre.rep pre.fresh pre.glob xs hxs).mono (fun e' w' ⟨x, ρ', he, hv, hs⟩ => ?_)
        subst he
        exact hn ρ' x w' hv hs
    ·
      intro f args h v h' e
      simp only [callF] at e
      split at e
      · rename_i r hs
        cases e
        unfold specTry at hs
        split at hs
        · rename_i g hg
          exact H.spec f g hg args h v h' hs
        · cases hs
      · split at e
        · rename_i fn hf
          split at e
          · rename_i c hc
            split at e
            · rename_i hk
              have body : ∀ e0 s0, exec E n c ⟨args ++ List.replicate (fn.ntmps - args.length) (.tup []), h⟩ = some (e0, s0) → (e0 = .norm ∨ e0 = .ret) → ∀ l h1, resultsA E.P s0.tmps fn.results.toList s0.hp = some (l, h1) → CaOk E.P f args h (oneOrAll l) h1 := by
                intro e0 s0 h0 he0 l h1 hres
                have o1 := I.ex _ _ _ _ h0
                have hqr : ∀ (ρ : Ren) (a : Act) (w : World), RelL ρ s0.tmps a.tmps.toList → Qt s0.hp h1 ∧ (Obs h1 → HeapRep E.P ρ s0.hp.heap w → ∃ xs, denL ρ l = some xs ∧ (fn.results.toList.mapM (resVal a.tmps)).run E.P w = .ok xs w) := fun ρ a w hr => results_ok hr fn.results.toList s0.hp h1 l hres
                have q : Qt s0.hp h1 := resultsA_qt hres
                refine ⟨o1.mono.trans q.mono, fun ho ρ w hr hf' hG xs hxs => ?_⟩
                refine calls_of_wp hf hc ?_
                have hlen := denL_length _ _ hxs
                have hrel : RelL ρ (args ++ List.replicate (fn.ntmps - args.length) (.tup [])) (xs.toArray ++ Array.replicate (fn.ntmps - xs.toArray.size) undef).toList := by
                  have h1 : (xs.toArray ++ Array.replicate (fn.ntmps - xs.toArray.size) undef).toList = xs ++ List.replicate (fn.ntmps - args.length) undef := by simp [hlen]
                  rw [h1]
                  refine relL_append (denL.rel hxs) ⟨by simp, fun k v hk => ?_⟩
                  rw [List.getElem?_replicate] at hk ⊢
                  split at hk
                  · rename_i hlt; cases hk; rw [if_pos hlt]; exact ⟨undef, rfl, undef_rel ρ⟩
                  · cases hk
                refine o1.wp (ho.of q.mono) ρ _ w _ ⟨hrel, rfl, hr, hf', hG⟩ (fun ρ' a' w' hr' hd' hs' => ?_)
                obtain ⟨_, hres'⟩ := hqr ρ' a' w' hr'
                obtain ⟨ys, hy1, hy2⟩ := hres' ho hs'.rep
                have hrun := results_run hy2
                have hfin : Step E.P ρ h w ρ' h1 w' := hs'.trans (.refl hs'.rep q.heap) o1.mono q.mono
                rcases he0 with rfl | rfl
                · exact ⟨hd', _, hrun, _, ρ', rfl, oneOrAll_den hy1, hfin⟩
                · exact ⟨hd', _, hrun, _, ρ', rfl, oneOrAll_den hy1, hfin⟩
              split at e
              · rename_i s0 h0
                split at e
                · rename_i l h1 hres; cases e; exact body _ _ h0 (.inl rfl) _ _ hres
                · cases e
              · rename_i s0 h0
                split at e
                · rename_i l h1 hres; cases e; exact body _ _ h0 (.inr rfl) _ _ hres
                · cases e
              · cases e
            · cases e
          · cases e
        · cases e

end Go.Ev

/-
  A state as an instance of a template: names are changed, what is symbolic is compared by obligations.
-/
set_option linter.unusedSimpArgs false
set_option linter.unusedVariables false
namespace Go.Ev

/-- Where a template's new name comes from. -/
inductive Src where
  | nm (k : Nat)
  | nil (wd : Nat)

/-- Names from lo to hi are new. -/
structure CM where
  lo : Nat
  hi : Nat
  m : List (Nat × Src)

def CM.fresh (c : CM) (n : Nat) : Bool := match Nat.ble c.lo n with
  | true => Nat.blt n c.hi
  | false => false

/-- May the template's name n stand for the source's k? -/
def CM.same (c : CM) (n k : Nat) : Bool := match c.fresh n with
  | true => match get c.m n with
    | some (.nm k') => Nat.beq k' k
    | _ => false
  | false => Nat.beq n k

def nilLoc (wd : Nat) : Loc := ⟨0, 0, wd, 0, true⟩

/-- The template's names. -/
def CM.ren (c : CM) (ρ : Ren) : Ren := fun n => match c.fresh n with
  | true => match get c.m n with
    | some (.nm k) => ρ k
    | some (.nil wd) => some (nilLoc wd)
    | none => none
  | false => ρ n

theorem CM.same_ren {c : CM} {n k : Nat} (h : c.same n k = true) (ρ : Ren) : c.ren ρ n = ρ k := by
  unfold CM.same at h
  unfold CM.ren
  split at h
  · rename_i hf
    split at h
    · rename_i k' hg
      have := Nat.eq_of_beq_eq_true h
      subst this
      simp [hg]
    · cases h
  · rename_i hf
    have := Nat.eq_of_beq_eq_true h
    subst this
    rfl

mutual
def castVal (c : CM) : (src tmpl : AV) → Option (List Prop)
  | .int k n, .int k' n' => match decide (k = k'), decide (n = n') with
    | true, true => some []
    | _, _ => none
  | .sym k n, .int k' n' => match decide (k = k') with
    | true => some [n = n']
    | false => none
  | .int k n, .sym k' n' => match decide (k = k') with
    | true => some [n = n']
    | false => none
  | .sym k n, .sym k' n' => match decide (k = k') with
    | true => some [n = n']
    | false => none
  | .bool b, .bool b' => match b, b' with
    | true, true => some []
    | false, false => some []
    | _, _ => none
  | .bool b, .symb b' => some [b = b']
  | .symb b, .bool b' => some [b = b']
  | .symb b, .symb b' => some [b = b']
  | .nilp, .nilp => some []
  | .nils, .nils => some []
  | .nilm, .nilm => some []
  | .nilf, .nilf => some []
  | .nili, .nili => some []
  | .ptr k i j, .ptr n i' j' => match c.same n k with
    | true => some [i = i', j = j']
    | false => none
  | .xs wd k o l x, .xs wd' n o' l' x' => match c.same n k, Nat.beq wd wd' with
    | true, true => some [o = o', l = l', x = x']
    | _, _ => none
  | .xs wd k o l x, .ss wd' n o' l' x' => match c.same n k, Nat.beq wd wd' with
    | true, true => some [o = o', l = l', x = x']
    | _, _ => none
  | .ss wd k o l x, .ss wd' n o' l' x' => match c.same n k, Nat.beq wd wd' with
    | true, true => some [o = o', l = l', x = x']
    | _, _ => none
  | .nils, .ss wd' n o' l' x' => match c.fresh n, get c.m n with
    | true, some (.nil wd) => match Nat.beq wd wd' with
      | true => some [0 = o', 0 = l', x' = none]
      | false => none
    | _, _ => none
  | .map k, .map n => match c.same n k with
    | true => some []
    | false => none
  | .iface t v, .iface t' v' => match Nat.beq t t' with
    | true => castVal c v v'
    | false => none
  | .agg l, .agg l' => castVals c l l'
  | .tup l, .tup l' => castVals c l l'
  | .func f l m, .func f' l' m' => match decide (f = f'), castVals c l l', castVals c m m' with
    | true, some a, some b => some (a ++ b)
    | _, _, _ => none
  | _, _ => none
def castVals (c : CM) : (src tmpl : List AV) → Option (List Prop)
  | [], [] => some []
  | v :: l, v' :: l' => match castVal c v v', castVals c l l' with
    | some a, some b => some (a ++ b)
    | _, _ => none
  | _, _ => none
end

/-- .. where what is not asked for need not be known. -/
def castTop (c : CM) (src tmpl : AV) : Option (List Prop) := match tmpl with
  | .top => some []
  | v => castVal c src v

def castTops (c : CM) : (src tmpl : List AV) → Option (List Prop)
  | [], [] => some []
  | v :: l, v' :: l' => match castTop c v v', castTops c l l' with
    | some a, some b => some (a ++ b)
    | _, _ => none
  | _, _ => none

theorem all_append {a b : List Prop} (h : ∀ p ∈ a ++ b, p) : (∀ p ∈ a, p) ∧ ∀ p ∈ b, p := ⟨fun p hp => h p (List.mem_append_left _ hp), fun p hp => h p (List.mem_append_right _ hp)⟩

mutual
theorem castVal_ok {c : CM} {ρ : Ren} : ∀ (s t : AV) (ob : List Prop), castVal c s t = some ob → (∀ p ∈ ob, p) → ∀ x, den ρ s = some x → den (c.ren ρ) t = some x
  | s, t, ob, h, ho, x, hx => by
    unfold castVal at h
    split at h
    · split at h
      · rename_i k n k' n' a b
        have := of_decide_eq_true a; subst this
        have := of_decide_eq_true b; subst this
        simpa [den] using hx
      · cases h
    · split at h
      · rename_i k n k' n' _ a
        have := of_decide_eq_true a; subst this
        cases h
        have := ho _ (List.mem_cons_self ..); subst this
        simpa [den] using hx
      · cases h
    · split at h
      · rename_i k n k' n' _ a
        have := of_decide_eq_true a; subst this
        cases h
        have := ho _ (List.mem_cons_self ..); subst this
        simpa [den] using hx
      · cases h
    · split at h
      · rename_i k n k' n' _ a
        have := of_decide_eq_true a; subst this
        cases h
        have := ho _ (List.mem_cons_self ..); subst this
        simpa [den] using hx
      · cases h
    · split at h
      · simpa [den] using hx
      · simpa [den] using hx
      · cases h
    · cases h
      have := ho _ (List.mem_cons_self ..); subst this
      simpa [den] using hx
    · cases h
      have := ho _ (List.mem_cons_self ..); subst this
      simpa [den] using hx
    · cases h
      have := ho _ (List.mem_cons_self ..); subst this
      simpa [den] using hx
    · simpa [den] using hx
    · simpa [den] using hx
    · simpa [den] using hx
    · simpa [den] using hx
    · simpa [den] using hx
    · split at h
      · rename_i hs
        cases h
        have h1 := ho _ (List.mem_cons_self ..); subst h1
        have h2 := ho _ (List.mem_cons_of_mem _ (List.mem_cons_self ..)); subst h2
        simp only [den] at hx ⊢
        rw [CM.same_ren hs]; exact hx
      · cases h
    · split at h
      · rename_i hs hw
        cases h
        have hw := Nat.eq_of_beq_eq_true hw; subst hw
        have h1 := ho _ (List.mem_cons_self ..); subst h1
        have h2 := ho _ (List.mem_cons_of_mem _ (List.mem_cons_self ..)); subst h2
        have h3 := ho _ (List.mem_cons_of_mem _ (List.mem_cons_of_mem _ (List.mem_cons_self ..))); subst h3
        simp only [den] at hx ⊢
        rw [CM.same_ren hs]; exact hx
      · cases h
    · split at h
      · rename_i hs hw
        cases h
        have hw := Nat.eq_of_beq_eq_true hw; subst hw
        have h1 := ho _ (List.mem_cons_self ..); subst h1
        have h2 := ho _ (List.mem_cons_of_mem _ (List.mem_cons_self ..)); subst h2
        have h3 := ho _ (List.mem_cons_of_mem _ (List.mem_cons_of_mem _ (List.mem_cons_self ..))); subst h3
        simp only [den] at hx ⊢
        rw [CM.same_ren hs]
        split at hx
        · rename_i l hl
          split at hx
          · exact hx
          · cases hx
        · cases hx
      · cases h
    · split at h
      · rename_i hs hw
        cases h
        have hw := Nat.eq_of_beq_eq_true hw; subst hw
        have h1 := ho _ (List.mem_cons_self ..); subst h1
        have h2 := ho _ (List.mem_cons_of_mem _ (List.mem_cons_self ..)); subst h2
        have h3 := ho _ (List.mem_cons_of_mem _ (List.mem_cons_of_mem _ (List.mem_cons_self ..))); subst h3
        simp only [den] at hx ⊢
        rw [CM.same_ren hs]; exact hx
      · cases h
    · split at h
      · rename_i wd hf hg
        split at h
        · rename_i hw
          cases h
          have hw := Nat.eq_of_beq_eq_true hw; subst hw
          have h1 := ho _ (List.mem_cons_self ..)
          have h2 := ho _ (List.mem_cons_of_mem _ (List.mem_cons_self ..))
          have h3 := ho _ (List.mem_cons_of_mem _ (List.mem_cons_of_mem _ (List.mem_cons_self ..)))
          subst h1; subst h2; subst h3
          simp only [den] at hx ⊢
          have key : ∀ n, c.fresh n = true → get c.m n = some (.nil wd) → c.ren ρ n = some (nilLoc wd) := by
            intro n h1 h2; unfold CM.ren; rw [h1, h2]
          rw [key _ hf hg]
          simpa [nilLoc, Loc.slice, capOr] using hx
        · cases h
      · cases h
    · split at h
      · rename_i hs
        simp only [den] at hx ⊢
        rw [CM.same_ren hs]; exact hx
      · cases h
    · split at h
      · rename_i ht
        have ht := Nat.eq_of_beq_eq_true ht; subst ht
        simp only [den] at hx ⊢
        rename_i v v' 
        cases hv : den ρ _ with
        | none => rw [hv] at hx; cases hx
        | some y => rw [castVal_ok _ _ ob h ho y hv]; rw [hv] at hx; exact hx
      · cases h
    · simp only [den] at hx ⊢
      cases hv : denL ρ _ with
      | none => rw [hv] at hx; cases hx
      | some y => rw [castVals_ok _ _ ob h ho y hv]; rw [hv] at hx; exact hx
    · simp only [den] at hx ⊢
      cases hv : denL ρ _ with
      | none => rw [hv] at hx; cases hx
      | some y => rw [castVals_ok _ _ ob h ho y hv]; rw [hv] at hx; exact hx
    · split at h
      · rename_i hf ha hb
        have hf := of_decide_eq_true hf; subst hf
        cases h
        obtain ⟨o1, o2⟩ := all_append ho
        simp only [den] at hx ⊢
        cases hv : denL ρ _ with
        | none => rw [hv] at hx; cases hx
        | some y =>
          rw [hv] at hx
          cases hw : denL ρ _ with
          | none => rw [hw] at hx; cases hx
          | some z => rw [castVals_ok _ _ _ ha o1 y hv, castVals_ok _ _ _ hb o2 z hw]; rw [hw] at hx; exact hx
      · cases h
    · cases h
theorem castVals_ok {c : CM} {ρ : Ren} : ∀ (s t : List AV) (ob : List Prop), castVals c s t = some ob → (∀ p ∈ ob, p) → ∀ x, denL ρ s = some x → denL (c.ren ρ) t = some x
  | [], [], ob, h, ho, x, hx => by simpa [denL] using hx
  | v :: l, v' :: l', ob, h, ho, x, hx => by
    simp only [castVals] at h
    split at h
    · rename_i a b ha hb
      cases h
      obtain ⟨o1, o2⟩ := all_append ho
      simp only [denL] at hx ⊢
      cases hv : den ρ v with
      | none => rw [hv] at hx; cases hx
      | some y => cases hl : denL ρ l with
        | none => rw [hv, hl] at hx; cases hx
        | some ys =>
          rw [castVal_ok v v' a ha o1 y hv, castVals_ok l l' b hb o2 ys hl]
          rw [hv, hl] at hx; exact hx
    · cases h
  | [], _ :: _, ob, h, _, _, _ => by simp [castVals] at h
  | _ :: _, [], ob, h, _, _, _ => by simp [castVals] at h
end

theorem castTop_ok {c : CM} {ρ : Ren} {s t : AV} {ob : List Prop} (h : castTop c s t = some ob) (ho : ∀ p ∈ ob, p) {x : Value} (hx : relS ρ s x) : relS (c.ren ρ) t x := by
  unfold castTop at h
  split at h
  · exact .inl rfl
  · rcases hx with rfl | hx
    · simp [castVal] at h
    · exact .inr (castVal_ok s _ ob h ho x hx)

theorem castTops_ok {c : CM} {ρ : Ren} : ∀ (s t : List AV) (ob : List Prop), castTops c s t = some ob → (∀ p ∈ ob, p) → s.length = t.length ∧ ∀ (j : Nat) v, t[j]? = some v → ∃ u, s[j]? = some u ∧ ∀ x, relS ρ u x → relS (c.ren ρ) v x
  | [], [], ob, h, ho => ⟨rfl, fun j v hj => by simp at hj⟩
  | v :: l, v' :: l', ob, h, ho => by
    simp only [castTops] at h
    split at h
    · rename_i a b ha hb
      cases h
      obtain ⟨o1, o2⟩ := all_append ho
      obtain ⟨q1, q2⟩ := castTops_ok l l' b hb o2
      refine ⟨by simp [q1], fun j u hj => ?_⟩
      cases j with
      | zero => simp at hj; subst hj; exact ⟨v, rfl, fun x hx => castTop_ok ha o1 hx⟩
      | succ j => exact q2 j u (by simpa using hj)
    · cases h
  | [], _ :: _, ob, h, _ => by simp [castTops] at h
  | _ :: _, [], ob, h, _ => by simp [castTops] at h


/-! ### objects -/
/-- Row by row: the template's cells, and the source's. -/
def rowOb : (sh : List CK) → (j : Nat) → (src tmpl : Nat → AV) → Prop
  | [], _, _, _ => True
  | .int k :: r, j, f, g => g j = .sym k (avInt (f j)) ∧ rowOb r (j + 1) f g
  | .bool :: r, j, f, g => g j = .symb (avBool (f j)) ∧ rowOb r (j + 1) f g
  | .val :: _, _, _, _ => False

theorem rowOb_get {f g : Nat → AV} : ∀ (sh : List CK) (j0 : Nat), rowOb sh j0 f g → ∀ (j : Nat) k, sh[j]? = some k → (∃ i, k = .int i ∧ g (j0 + j) = .sym i (avInt (f (j0 + j)))) ∨ (k = .bool ∧ g (j0 + j) = .symb (avBool (f (j0 + j))))
  | [], _, _, j, k, h => by simp at h
  | .int i :: r, j0, ho, 0, k, h => by simp at h; subst h; exact .inl ⟨i, rfl, ho.1⟩
  | .bool :: r, j0, ho, 0, k, h => by simp at h; subst h; exact .inr ⟨rfl, ho.1⟩
  | .val :: r, j0, ho, 0, k, h => ho.elim
  | .int i :: r, j0, ho, j + 1, k, h => by
    have := rowOb_get r (j0 + 1) ho.2 j k (by simpa using h)
    rw [show j0 + 1 + j = j0 + (j + 1) by omega] at this; exact this
  | .bool :: r, j0, ho, j + 1, k, h => by
    have := rowOb_get r (j0 + 1) ho.2 j k (by simpa using h)
    rw [show j0 + 1 + j = j0 + (j + 1) by omega] at this; exact this
  | .val :: r, j0, ho, j + 1, k, h => ho.elim

theorem rowOb_cell {ρ ρ' : Ren} {f g : Nat → AV} {sh : List CK} (h : rowOb sh 0 f g) {j : Nat} {k : CK} (hj : sh[j]? = some k) (hk : kindOk k (f j)) {x : Value} (hx : den ρ (f j) = some x) : kindOk k (g j) ∧ den ρ' (g j) = some x := by
  have := rowOb_get sh 0 h j k hj
  rw [Nat.zero_add] at this
  rcases this with ⟨i, rfl, e⟩ | ⟨rfl, e⟩
  · obtain ⟨n, hn | hn⟩ := hk <;> rw [hn] at e hx <;> rw [e] <;> exact ⟨⟨_, .inr rfl⟩, by simpa [den, avInt] using hx⟩
  · obtain ⟨n, hn | hn⟩ := hk <;> rw [hn] at e hx <;> rw [e] <;> exact ⟨⟨_, .inr rfl⟩, by simpa [den, avBool] using hx⟩

/-- A cell that holds any value: the template's, and the source's. -/
def valV (c : CM) (s t : AV) : Prop := t.oneCell = true ∧ ∀ (ρ : Ren) x, den ρ s = some x → den (c.ren ρ) t = some x

/-- .. where cells may hold any value. -/
def rowV (c : CM) : (sh : List CK) → (j : Nat) → (src tmpl : Nat → AV) → Prop
  | [], _, _, _ => True
  | .int k :: r, j, f, g => g j = .sym k (avInt (f j)) ∧ rowV c r (j + 1) f g
  | .bool :: r, j, f, g => g j = .symb (avBool (f j)) ∧ rowV c r (j + 1) f g
  | .val :: r, j, f, g => valV c (f j) (g j) ∧ rowV c r (j + 1) f g

theorem rowV_get {c : CM} {f g : Nat → AV} : ∀ (sh : List CK) (j0 : Nat), rowV c sh j0 f g → ∀ (j : Nat) k, sh[j]? = some k → (∃ i, k = .int i ∧ g (j0 + j) = .sym i (avInt (f (j0 + j)))) ∨ (k = .bool ∧ g (j0 + j) = .symb (avBool (f (j0 + j)))) ∨ (k = .val ∧ valV c (f (j0 + j)) (g (j0 + j)))
  | [], _, _, j, k, h => by simp at h
  | .int i :: r, j0, ho, 0, k, h => by simp at h; subst h; exact .inl ⟨i, rfl, ho.1⟩
  | .bool :: r, j0, ho, 0, k, h => by simp at h; subst h; exact .inr (.inl ⟨rfl, ho.1⟩)
  | .val :: r, j0, ho, 0, k, h => by simp at h; subst h; exact .inr (.inr ⟨rfl, ho.1⟩)
  | .int i :: r, j0, ho, j + 1, k, h => by
    have := rowV_get r (j0 + 1) ho.2 j k (by simpa using h)
    rw [show j0 + 1 + j = j0 + (j + 1) by omega] at this; exact this
  | .bool :: r, j0, ho, j + 1, k, h => by
    have := rowV_get r (j0 + 1) ho.2 j k (by simpa using h)
    rw [show j0 + 1 + j = j0 + (j + 1) by omega] at this; exact this
  | .val :: r, j0, ho, j + 1, k, h => by
    have := rowV_get r (j0 + 1) ho.2 j k (by simpa using h)
    rw [show j0 + 1 + j = j0 + (j + 1) by omega] at this; exact this

theorem rowV_cell {c : CM} {ρ : Ren} {f g : Nat → AV} {sh : List CK} (h : rowV c sh 0 f g) {j : Nat} {k : CK} (hj : sh[j]? = some k) (hk : kindOk k (f j)) {x : Value} (hx : den ρ (f j) = some x) : kindOk k (g j) ∧ den (c.ren ρ) (g j) = some x := by
  have := rowV_get sh 0 h j k hj
  rw [Nat.zero_add] at this
  rcases this with ⟨i, rfl, e⟩ | ⟨rfl, e⟩ | ⟨rfl, e1, e2⟩
  · obtain ⟨n, hn | hn⟩ := hk <;> rw [hn] at e hx <;> rw [e] <;> exact ⟨⟨_, .inr rfl⟩, by simpa [den, avInt] using hx⟩
  · obtain ⟨n, hn | hn⟩ := hk <;> rw [hn] at e hx <;> rw [e] <;> exact ⟨⟨_, .inr rfl⟩, by simpa [den, avBool] using hx⟩
  · exact ⟨e1, e2 ρ x hx⟩

theorem rowOb_V (c : CM) {f g : Nat → AV} : ∀ (sh : List CK) (j : Nat), rowOb sh j f g → rowV c sh j f g
  | [], _, _ => trivial
  | .int _ :: r, j, h => ⟨h.1, rowOb_V c r (j + 1) h.2⟩
  | .bool :: r, j, h => ⟨h.1, rowOb_V c r (j + 1) h.2⟩
  | .val :: _, _, h => h.elim

/-- Explicit cells, as rows. -/
def listRow (wd : Nat) (l : List AV) (i j : Nat) : AV := match nth l (i * wd + j) with
  | some v => v
  | none => .top

/-- The kind of an explicit cell. -/
def kindB : CK → AV → Bool
  | .int k, .int k' _ => decide (k = k')
  | .int k, .sym k' _ => decide (k = k')
  | .bool, .bool _ => true
  | .bool, .symb _ => true
  | .val, v => v.oneCell
  | _, _ => false

def kindsB (wd : Nat) (l : List AV) (i : Nat) : (sh : List CK) → (j : Nat) → Bool
  | [], _ => true
  | k :: r, j => match kindB k (listRow wd l i j) with
    | true => kindsB wd l i r (j + 1)
    | false => false

def rowsB (wd : Nat) (l : List AV) (sh : List CK) : Nat → Bool
  | 0 => true
  | n + 1 => match kindsB wd l n sh 0 with
    | true => rowsB wd l sh n
    | false => false

theorem kindB_ok {k : CK} {v : AV} (h : kindB k v = true) : kindOk k v ∧ ∀ (ρ : Ren) x, relS ρ v x → den ρ v = some x := by
  unfold kindB at h
  split at h
  · have := of_decide_eq_true h; subst this
    exact ⟨⟨_, .inl rfl⟩, fun ρ x hx => by rcases hx with hx | hx; cases hx; exact hx⟩
  · have := of_decide_eq_true h; subst this
    exact ⟨⟨_, .inr rfl⟩, fun ρ x hx => by rcases hx with hx | hx; cases hx; exact hx⟩
  · exact ⟨⟨_, .inl rfl⟩, fun ρ x hx => by rcases hx with hx | hx; cases hx; exact hx⟩
  · exact ⟨⟨_, .inr rfl⟩, fun ρ x hx => by rcases hx with hx | hx; cases hx; exact hx⟩
  · refine ⟨h, fun ρ x hx => ?_⟩
    rcases hx with rfl | hx
    · simp [AV.oneCell] at h
    · exact hx
  · cases h

theorem kindsB_get {wd : Nat} {l : List AV} {i : Nat} : ∀ (sh : List CK) (j0 : Nat), kindsB wd l i sh j0 = true → ∀ (j : Nat) k, sh[j]? = some k → kindB k (listRow wd l i (j0 + j)) = true
  | [], _, _, j, k, h => by simp at h
  | k0 :: r, j0, ho, j, k, h => by
    simp only [kindsB] at ho
    split at ho
    · rename_i hk
      cases j with
      | zero => simp at h; subst h; exact hk
      | succ j =>
        have := kindsB_get r (j0 + 1) ho j k (by simpa using h)
        rw [show j0 + 1 + j = j0 + (j + 1) by omega] at this; exact this
    · cases ho

theorem rowsB_get {wd : Nat} {l : List AV} {sh : List CK} : ∀ (n : Nat), rowsB wd l sh n = true → ∀ i, i < n → ∀ (j : Nat) k, sh[j]? = some k → kindB k (listRow wd l i j) = true
  | 0, _, i, hi, _, _, _ => by omega
  | n + 1, h, i, hi, j, k, hj => by
    simp only [rowsB] at h
    split at h
    · rename_i hk
      by_cases e : i = n
      · subst e; have := kindsB_get sh 0 hk j k hj; rwa [Nat.zero_add] at this
      · exact rowsB_get n h i (by omega) j k hj
    · cases h

def castObj (c : CM) (src tmpl : AO) : Option (List Prop) := match src, tmpl with
  | .cells wd l, .cells wd' l' => match Nat.beq wd wd' with
    | true => castTops c l l'
    | false => none
  | .cells wd l, .arr wd' sh ro len f => match Nat.beq wd wd', Nat.beq sh.length wd, ro, Nat.ble 1 wd with
    | true, true, false, true => match Nat.beq (l.length / wd * wd) l.length, rowsB wd l sh (l.length / wd) with
      | true, true => match plainSh sh with
        | true => some [len = l.length / wd, ∀ i, i < len → rowOb sh 0 (listRow wd l i) (f i)]
        | false => some [len = l.length / wd, ∀ i, i < len → rowV c sh 0 (listRow wd l i) (f i)]
      | _, _ => none
    | _, _, _, _ => none
  | .arr wd sh ro len f, .arr wd' sh' ro' len' f' => match Nat.beq wd wd', shBeq sh sh' with
    | true, true => match plainSh sh with
      | true => some [ro = ro', len' ≤ len, (f' = f ∧ plainSh sh = true) ∨ ∀ i, i < len' → rowOb sh 0 (f i) (f' i)]
      | false => some [ro = ro', len' ≤ len, ∀ i, i < len' → rowV c sh 0 (f i) (f' i)]
    | _, _ => none
  | .map t f, .map t' f' => match Nat.beq t t' with
    | true => some [∀ k, f k = f' k]
    | false => none
  | _, _ => none

theorem castObj_ok {P : Program} {c : CM} {ρ : Ren} {w : World} {l : Loc} {s t : AO} {ob : List Prop} (h : castObj c s t = some ob) (ho : ∀ p ∈ ob, p) (hr : ObjRep P ρ w l s) : ObjRep P (c.ren ρ) w l t ∧ t.ro = s.ro := by
  unfold castObj at h
  split at h
  · rename_i wd cs wd' cs'
    split at h
    · rename_i hw
      have hw := Nat.eq_of_beq_eq_true hw; subst hw
      obtain ⟨q1, q2⟩ := castTops_ok (ρ := ρ) _ _ ob h ho
      obtain ⟨h0, h1, h2, cc, ty, fr, hb, hf, hc, hc2, hv⟩ := hr
      refine ⟨⟨h0, h1, h2, cc, ty, fr, hb, hf, by omega, hc2, fun j v hj => ?_⟩, rfl⟩
      obtain ⟨u, hu, hux⟩ := q2 j v hj
      obtain ⟨x, hx, hrx⟩ := hv j u hu
      exact ⟨x, hx, hux x hrx⟩
    · cases h
  · rename_i wd cs wd' sh ro len f
    split at h
    · rename_i hw hsh hw1
      split at h
      · rename_i hdiv hrows
        have hob : ob.length = 2 ∧ ob[0]? = some (len = cs.length / wd) ∧ ∀ p, ob[1]? = some p → p → ∀ i, i < len → rowV c sh 0 (listRow wd cs i) (f i) := by
          split at h
          · cases h; exact ⟨rfl, rfl, fun p hp hq => by cases hp; exact fun i hi => rowOb_V c sh 0 (hq i hi)⟩
          · cases h; exact ⟨rfl, rfl, fun p hp hq => by cases hp; exact hq⟩
        obtain ⟨hl2, hob0, hob1⟩ := hob
        have hw := Nat.eq_of_beq_eq_true hw; subst hw
        have hsh := Nat.eq_of_beq_eq_true hsh
        have hdiv := Nat.eq_of_beq_eq_true hdiv
        have hw1 : 1 ≤ wd := by simpa [Nat.ble_eq] using hw1
        have o1 := ho _ (List.mem_of_getElem? hob0)
        have o2 : ∀ i, i < len → rowV c sh 0 (listRow wd cs i) (f i) := by
          obtain ⟨p, hp⟩ : ∃ p, ob[1]? = some p := ⟨ob[1]'(by omega), List.getElem?_eq_getElem (by omega)⟩
          exact hob1 p hp (ho _ (List.mem_of_getElem? hp))
        obtain ⟨h0, h1, h2, cc, ty, fr, hb, hf, hc, hc2, hv⟩ := hr
        have hlen : len ≤ l.cap := by
          have : len * wd ≤ l.cap * wd := by rw [o1, hdiv]; exact hc
          exact Nat.le_of_mul_le_mul_right this hw1
        refine ⟨⟨h2, hsh, hlen, fun e => (by rw [h0] at e; cases e), fun _ => ⟨cc, ty, fr, hb, fun _ => hf, hc2, fun i hi j k hj => ?_⟩⟩, rfl⟩
        have hkb := rowsB_get _ hrows i (by omega) j k hj
        obtain ⟨kk, kd⟩ := kindB_ok hkb
        have hjw : j < wd := by have := (List.getElem?_eq_some_iff.1 hj).1; omega
        have hil : i * wd + j < cs.length := by
          have : (i + 1) * wd ≤ len * wd := Nat.mul_le_mul_right wd hi
          rw [Nat.succ_mul] at this
          rw [o1, hdiv] at this
          omega
        have hcell : cs[i * wd + j]? = some (listRow wd cs i j) := by
          simp only [listRow, nth_eq]
          rw [List.getElem?_eq_getElem hil]
        obtain ⟨x, hx, hrx⟩ := hv _ _ hcell
        have hd := kd ρ x hrx
        obtain ⟨k1, k2⟩ := rowV_cell (ρ := ρ) (o2 i hi) hj kk hd
        exact ⟨k1, x, by rw [Nat.add_assoc]; exact hx, k2⟩
      · cases h
    · cases h
  · rename_i wd sh ro len f wd' sh' ro' len' f'
    split at h
    · rename_i hw hs
      have hob : ob.length = 3 ∧ ob[0]? = some (ro = ro') ∧ ob[1]? = some (len' ≤ len) ∧ ∀ p, ob[2]? = some p → p → (f' = f ∧ plainSh sh = true) ∨ ∀ i, i < len' → rowV c sh 0 (f i) (f' i) := by
        split at h
        · cases h; exact ⟨rfl, rfl, rfl, fun p hp hq => by cases hp; exact hq.imp id (fun q i hi => rowOb_V c sh 0 (q i hi))⟩
        · cases h; exact ⟨rfl, rfl, rfl, fun p hp hq => by cases hp; exact .inr hq⟩
      obtain ⟨hl3, hob0, hob1, hob2⟩ := hob
      have hw := Nat.eq_of_beq_eq_true hw; subst hw
      have hs := shBeq_eq hs; subst hs
      have hro := ho _ (List.mem_of_getElem? hob0)
      subst hro
      have o1 := ho _ (List.mem_of_getElem? hob1)
      have o2 : (f' = f ∧ plainSh sh = true) ∨ ∀ i, i < len' → rowV c sh 0 (f i) (f' i) := by
        obtain ⟨p, hp⟩ : ∃ p, ob[2]? = some p := ⟨ob[2]'(by omega), List.getElem?_eq_getElem (by omega)⟩
        exact hob2 p hp (ho _ (List.mem_of_getElem? hp))
      obtain ⟨h1, h2, h3, h4, h5⟩ := hr
      refine ⟨⟨h1, h2, Nat.le_trans o1 h3, h4, fun hc => ?_⟩, rfl⟩
      obtain ⟨cc, ty, fr, hb, hf, hc2, hv⟩ := h5 hc
      refine ⟨cc, ty, fr, hb, hf, hc2, fun i hi j k hj => ?_⟩
      obtain ⟨kk, x, hx, hd⟩ := hv i (by omega) j k hj
      rcases o2 with ⟨rfl, hp⟩ | o2
      · refine ⟨kk, x, hx, ?_⟩
        rcases plainSh_get sh hp j k hj with ⟨q, rfl⟩ | rfl
        · obtain ⟨n, hn | hn⟩ := kk <;> rw [hn] at hd ⊢ <;> simpa [den] using hd
        · obtain ⟨n, hn | hn⟩ := kk <;> rw [hn] at hd ⊢ <;> simpa [den] using hd
      · obtain ⟨k1, k2⟩ := rowV_cell (ρ := ρ) (o2 i hi) hj kk hd
        exact ⟨k1, x, hx, k2⟩
    · cases h
  · rename_i t f t' f'
    split at h
    · rename_i ht
      cases h
      have ht := Nat.eq_of_beq_eq_true ht; subst ht
      have o1 := ho _ (List.mem_cons_self ..)
      obtain ⟨h0, h1, ks, agg, vk, hk, es, clock, hb, hbo, hm⟩ := hr
      refine ⟨⟨h0, h1, ks, agg, vk, hk, es, clock, hb, hbo, ?_⟩, rfl⟩
      have : f = f' := funext o1
      rw [← this]; exact hm
    · cases h
  · cases h

/-! ### heaps -/
def castNil (wd : Nat) : AO → Option (List Prop)
  | .arr wd' sh false len _ => match Nat.beq wd wd', Nat.beq sh.length wd with
    | true, true => some [len = 0]
    | _, _ => none
  | _ => none

def castEntry (c : CM) (h : List (Nat × AO)) (n : Nat) (o : AO) : Option (List Prop) := match c.fresh n with
  | true => match get c.m n with
    | some (.nm k) => match get h k with
      | some o1 => castObj c o1 o
      | none => none
    | some (.nil wd) => castNil wd o
    | none => none
  | false => match get h n with
    | some o1 => castObj c o1 o
    | none => none

def castHeap (c : CM) (h : List (Nat × AO)) : List (Nat × AO) → Option (List Prop)
  | [] => some []
  | (n, o) :: r => match castEntry c h n o, castHeap c h r with
    | some a, some b => some (a ++ b)
    | _, _ => none

/-- The source's name, if any. -/
def CM.src (c : CM) (n : Nat) : Option Nat := match c.fresh n with
  | true => match get c.m n with
    | some (.nm k) => some k
    | _ => none
  | false => some n

/-- No source twice. -/
def apartB (c : CM) : (seen : List Nat) → List (Nat × AO) → Bool
  | _, [] => true
  | seen, (n, _) :: r => match c.src n with
    | some k => match mem k seen with
      | true => false
      | false => apartB c (k :: seen) r
    | none => apartB c seen r

theorem castHeap_get {c : CM} {h : List (Nat × AO)} : ∀ (l : List (Nat × AO)) (ob : List Prop), castHeap c h l = some ob → (∀ p ∈ ob, p) → ∀ n o, get l n = some o → ∃ a, castEntry c h n o = some a ∧ ∀ p ∈ a, p
  | [], _, _, _, n, o, hn => by simp [get] at hn
  | (m, o') :: r, ob, e, ho, n, o, hn => by
    simp only [castHeap] at e
    split at e
    · rename_i a b ha hb
      cases e
      obtain ⟨o1, o2⟩ := all_append ho
      simp only [get] at hn
      split at hn
      · rename_i hm
        have hm := Nat.eq_of_beq_eq_true hm; subst hm
        cases hn
        exact ⟨a, ha, o1⟩
      · exact castHeap_get r b hb o2 n o hn
    · cases e

theorem apartB_get {c : CM} : ∀ (l : List (Nat × AO)) (seen : List Nat), apartB c seen l = true → (∀ n o k, get l n = some o → c.src n = some k → k ∉ seen) ∧ ∀ n m o o' k, get l n = some o → get l m = some o' → n ≠ m → c.src n = some k → c.src m ≠ some k
  | [], _, _ => ⟨fun n o k h => by simp [get] at h, fun n m o o' k h => by simp [get] at h⟩
  | (q, x) :: r, seen, h => by
    simp only [apartB] at h
    have hget : ∀ n o, get ((q, x) :: r) n = some o → n = q ∨ (n ≠ q ∧ get r n = some o) := by
      intro n o hn
      simp only [get] at hn
      split at hn
      · rename_i hm; exact .inl (Nat.eq_of_beq_eq_true hm).symm
      · rename_i hm
        refine .inr ⟨fun e => by subst e; simp at hm, hn⟩
    split at h
    · rename_i k0 hk0
      split at h
      · cases h
      · rename_i hmem
        have hmem : k0 ∉ seen := fun e => by rw [(mem_iff k0 seen).2 e] at hmem; cases hmem
        obtain ⟨i1, i2⟩ := apartB_get r (k0 :: seen) h
        refine ⟨fun n o k hn hk => ?_, fun n m o o' k hn hm hne hk hk' => ?_⟩
        · rcases hget n o hn with rfl | ⟨_, hn⟩
          · rw [hk0] at hk; cases hk; exact hmem
          · exact fun e => i1 n o k hn hk (List.mem_cons_of_mem _ e)
        · rcases hget n o hn with en | ⟨_, hn2⟩
          · rcases hget m o' hm with em | ⟨_, hm2⟩
            · exact hne (en.trans em.symm)
            · rw [en, hk0] at hk; cases hk
              exact i1 m o' _ hm2 hk' (List.mem_cons_self ..)
          · rcases hget m o' hm with em | ⟨_, hm2⟩
            · rw [em, hk0] at hk'; cases hk'
              exact i1 n o _ hn2 hk (List.mem_cons_self ..)
            · exact i2 n m o o' k hn2 hm2 hne hk hk'
    · rename_i hk0
      obtain ⟨i1, i2⟩ := apartB_get r seen h
      refine ⟨fun n o k hn hk => ?_, fun n m o o' k hn hm hne hk hk' => ?_⟩
      · rcases hget n o hn with rfl | ⟨_, hn⟩
        · rw [hk0] at hk; cases hk
        · exact i1 n o k hn hk
      · rcases hget n o hn with en | ⟨_, hn2⟩
        · rw [en, hk0] at hk; cases hk
        · rcases hget m o' hm with em | ⟨_, hm2⟩
          · rw [em, hk0] at hk'; cases hk'
          · exact i2 n m o o' k hn2 hm2 hne hk hk'


/-! ### states -/
def wrOk (h0 : List (Nat × AO)) (wr : List Nat) : List Nat → Bool
  | [] => true
  | n :: r => match get h0 n with
    | none => wrOk h0 wr r
    | some _ => match mem n wr with
      | true => wrOk h0 wr r
      | false => false

def oldOk (c : CM) (wr : List Nat) : List (Nat × AO) → Bool
  | [] => true
  | (n, _) :: r => match c.fresh n, get c.m n with
    | true, some (.nm k) => match c.fresh k, mem k wr with
      | false, false => false
      | _, _ => oldOk c wr r
    | _, _ => oldOk c wr r

def namesIn (lo hi : Nat) : List (Nat × Src) → Bool
  | [] => true
  | (n, _) :: r => match Nat.ble lo n, Nat.blt n hi with
    | true, true => namesIn lo hi r
    | _, _ => false

def subB (wr : List Nat) : List Nat → Bool
  | [] => true
  | n :: r => match mem n wr with
    | true => subB wr r
    | false => false

theorem subB_get {wr : List Nat} : ∀ (l : List Nat), subB wr l = true → ∀ n ∈ l, n ∈ wr
  | [], _, n, h => by cases h
  | k :: r, h, n, hn => by
    simp only [subB] at h
    split at h
    · rename_i hm
      rcases List.mem_cons.1 hn with rfl | hn
      · exact (mem_iff n wr).1 hm
      · exact subB_get r h n hn
    · cases h

def castSt (h0 : Hp) (m : List (Nat × Src)) (s T : St) : Option (List Prop) :=
  match subB T.hp.wr h0.wr, Nat.beq T.hp.hi h0.hi, Nat.ble h0.nxt T.hp.nxt, Nat.ble s.hp.nxt h0.hi, namesIn h0.nxt T.hp.nxt m, wrOk h0.heap T.hp.wr s.hp.wr, oldOk ⟨h0.nxt, h0.hi, m⟩ T.hp.wr T.hp.heap, apartB ⟨h0.nxt, h0.hi, m⟩ [] T.hp.heap with
  | true, true, true, true, true, true, true, true => match castTops ⟨h0.nxt, h0.hi, m⟩ s.tmps T.tmps, castHeap ⟨h0.nxt, h0.hi, m⟩ s.hp.heap T.hp.heap with
    | some a, some b => some (a ++ b)
    | _, _ => none
  | _, _, _, _, _, _, _, _ => none

theorem namesIn_get {lo hi : Nat} : ∀ (m : List (Nat × Src)), namesIn lo hi m = true → ∀ n x, get m n = some x → lo ≤ n ∧ n < hi
  | [], _, n, x, h => by simp [get] at h
  | (k, y) :: r, h, n, x, hn => by
    simp only [namesIn] at h
    split at h
    · rename_i a b
      simp only [get] at hn
      split at hn
      · rename_i e
        have e := Nat.eq_of_beq_eq_true e; subst e
        exact ⟨by simpa [Nat.ble_eq] using a, by simpa [Nat.blt_eq] using b⟩
      · exact namesIn_get r h n x hn
    · cases h

theorem wrOk_get {h0 : List (Nat × AO)} {wr : List Nat} : ∀ (l : List Nat), wrOk h0 wr l = true → ∀ n ∈ l, ∀ o, get h0 n = some o → n ∈ wr
  | [], _, n, h, _, _ => by cases h
  | k :: r, h, n, hn, o, ho => by
    simp only [wrOk] at h
    split at h
    · rename_i hk
      rcases List.mem_cons.1 hn with rfl | hn
      · rw [hk] at ho; cases ho
      · exact wrOk_get r h n hn o ho
    · split at h
      · rename_i hm
        rcases List.mem_cons.1 hn with rfl | hn
        · exact (mem_iff n wr).1 hm
        · exact wrOk_get r h n hn o ho
      · cases h

theorem oldOk_get {c : CM} {wr : List Nat} : ∀ (l : List (Nat × AO)), oldOk c wr l = true → ∀ n o k, get l n = some o → c.fresh n = true → get c.m n = some (.nm k) → c.fresh k = true ∨ k ∈ wr
  | [], _, n, o, k, h, _, _ => by simp [get] at h
  | (q, x) :: r, h, n, o, k, hn, hf, hk => by
    simp only [oldOk] at h
    have hget : n = q ∨ get r n = some o := by
      simp only [get] at hn
      split at hn
      · rename_i hm; exact .inl (Nat.eq_of_beq_eq_true hm).symm
      · exact .inr hn
    split at h
    · rename_i k' hfq hkq
      split at h
      · cases h
      · rename_i hno
        rcases hget with e | hn
        · subst e
          rw [hk] at hkq; cases hkq
          cases h1 : c.fresh k with
          | true => exact .inl rfl
          | false => cases h2 : mem k wr with
            | true => exact .inr ((mem_iff k wr).1 h2)
            | false => exact (hno h1 h2).elim
        · exact oldOk_get r h n o k hn hf hk
    · rename_i hno
      rcases hget with e | hn
      · subst e; exact (hno k hf hk).elim
      · exact oldOk_get r h n o k hn hf hk

theorem CM.fresh_iff {c : CM} {n : Nat} : c.fresh n = true ↔ c.lo ≤ n ∧ n < c.hi := by
  unfold CM.fresh
  split
  · rename_i h
    have : c.lo ≤ n := by simpa [Nat.ble_eq] using h
    simp [Nat.blt_eq, this]
  · rename_i h
    have : ¬ c.lo ≤ n := by intro e; have := Nat.ble_eq_true_of_le e; rw [this] at h; cases h
    simp [this]

theorem castEntry_ok {P : Program} {c : CM} {ρ : Ren} {w : World} {h : List (Nat × AO)} (hr : ∀ n o, get h n = some o → ∃ l, ρ n = some l ∧ ObjRep P ρ w l o) {n : Nat} {o : AO} {ob : List Prop} (e : castEntry c h n o = some ob) (ho : ∀ p ∈ ob, p) :
    ∃ l, c.ren ρ n = some l ∧ ObjRep P (c.ren ρ) w l o ∧ (l.cap ≠ 0 → ∃ k o1, c.src n = some k ∧ get h k = some o1 ∧ ρ k = some l ∧ o.ro = o1.ro) := by
  unfold castEntry at e
  split at e
  · rename_i hf
    split at e
    · rename_i k hk
      split at e
      · rename_i o1 h1
        obtain ⟨l, hl, hob⟩ := hr k o1 h1
        obtain ⟨q1, q2⟩ := castObj_ok e ho hob
        refine ⟨l, ?_, q1, fun _ => ⟨k, o1, ?_, h1, hl, q2⟩⟩
        · unfold CM.ren; rw [hf, hk]; exact hl
        · unfold CM.src; rw [hf, hk]
      · cases e
    · rename_i wd hk
      have hren : c.ren ρ n = some (nilLoc wd) := by unfold CM.ren; rw [hf, hk]
      refine ⟨nilLoc wd, hren, ?_, fun h => (h rfl).elim⟩
      unfold castNil at e
      split at e
      · rename_i wd' sh len f
        split at e
        · rename_i a b
          cases e
          have a := Nat.eq_of_beq_eq_true a; subst a
          have b := Nat.eq_of_beq_eq_true b
          have h0 := ho _ (List.mem_cons_self ..)
          subst h0
          exact ⟨rfl, b, Nat.le_refl _, fun _ => rfl, fun h => (h rfl).elim⟩
        · cases e
      · cases e
    · cases e
  · rename_i hf
    split at e
    · rename_i o1 h1
      obtain ⟨l, hl, hob⟩ := hr n o1 h1
      obtain ⟨q1, q2⟩ := castObj_ok e ho hob
      refine ⟨l, ?_, q1, fun _ => ⟨n, o1, ?_, h1, hl, q2⟩⟩
      · unfold CM.ren; rw [hf]; exact hl
      · unfold CM.src; rw [hf]
    · cases e

/-- A step whose new names lie below a bound. -/
structure StepB (P : Program) (B : Nat) (ρ : Ren) (h : Hp) (w : World) (ρ' : Ren) (h' : Hp) (w' : World) : Prop where
  le : Le ρ ρ'
  new : ∀ n l, ρ n = none → ρ' n = some l → h.nxt ≤ n ∧ n < B
  rep : HeapRep P ρ' h'.heap w'
  fr : Fr w w' (Owned ρ h.heap h'.wr)
  own : ∀ n o l, get h'.heap n = some o → ρ' n = some l → l.cap ≠ 0 → l.blk < w.heap.size → ∃ m o' l', get h.heap m = some o' ∧ o'.ro = o.ro ∧ ρ m = some l' ∧ l'.cap ≠ 0 ∧ l'.blk = l.blk ∧ (m = n ∨ m ∈ h'.wr)

/-- Like 'castSt_ok', where names from hi to B are left as they are. -/
theorem castSt_okB {P : Program} {B : Nat} {ρ0 ρ' : Ren} {h0 : Hp} {w0 w1 : World} {m : List (Nat × Src)} {s T : St} {ob : List Prop} (st : StepB P B ρ0 h0 w0 ρ' s.hp w1) (hB : h0.hi ≤ B) (f0 : Fresh ρ0 h0.nxt B)
    (e : castSt h0 m s T = some ob) (ho : ∀ p ∈ ob, p) {xs : List Value} (rel : RelL ρ' s.tmps xs) :
    ∃ ρ'', RelL ρ'' T.tmps xs ∧ StepB P B ρ0 h0 w0 ρ'' T.hp w1 ∧ (∀ n l, ρ0 n = none → ρ'' n = some l → n < T.hp.nxt ∨ h0.hi ≤ n) ∧ Fresh ρ'' T.hp.nxt T.hp.hi ∧ h0.nxt ≤ T.hp.nxt ∧ T.hp.hi = h0.hi ∧ (∀ n ∈ h0.wr, n ∈ T.hp.wr) ∧
      (∀ n, ¬ (h0.nxt ≤ n ∧ n < h0.hi) → ρ'' n = ρ' n) ∧
      (∀ n ∈ s.hp.wr, ∀ o, get h0.heap n = some o → n ∈ T.hp.wr) ∧
      ∀ n o l, get T.hp.heap n = some o → ρ'' n = some l → l.cap ≠ 0 → ∃ k o1, get s.hp.heap k = some o1 ∧ ρ' k = some l ∧ o.ro = o1.ro := by
  unfold castSt at e
  split at e
  case h_2 => cases e
  rename_i e0 e1 e2 e3 e4 e5 e6 e7
  split at e
  case h_2 => cases e
  rename_i a b ha hb
  cases e
  obtain ⟨oa, obb⟩ := all_append ho
  have e1 := Nat.eq_of_beq_eq_true e1
  have e2 : h0.nxt ≤ T.hp.nxt := by simpa [Nat.ble_eq] using e2
  have e3 : s.hp.nxt ≤ h0.hi := by simpa [Nat.ble_eq] using e3
  let c : CM := ⟨h0.nxt, h0.hi, m⟩
  have hold : ∀ n, c.fresh n = false → c.ren ρ' n = ρ' n := fun n h => by unfold CM.ren; rw [h]
  have hnone : ∀ n, c.fresh n = true → ρ0 n = none := fun n h => by
    have := CM.fresh_iff.1 h
    exact f0 n this.1 (Nat.lt_of_lt_of_le this.2 hB)
  have entry : ∀ n o, get T.hp.heap n = some o → ∃ l, c.ren ρ' n = some l ∧ ObjRep P (c.ren ρ') w1 l o ∧ (l.cap ≠ 0 → ∃ k o1, c.src n = some k ∧ get s.hp.heap k = some o1 ∧ ρ' k = some l ∧ o.ro = o1.ro) := fun n o hn => by
    obtain ⟨ob', h1, h2⟩ := castHeap_get _ b hb obb n o hn
    exact castEntry_ok (P := P) (w := w1) (ρ := ρ') (c := c) st.rep.1 h1 h2
  refine ⟨c.ren ρ', ?_, ⟨?_, ?_, ⟨?_, ?_⟩, ?_, ?_⟩, ?_, ?_, e2, e1, subB_get _ e0, fun n hn => hold n (by
      cases hf : c.fresh n with
      | false => rfl
      | true => exact (hn (CM.fresh_iff.1 hf)).elim), fun n hn o ho => wrOk_get _ e5 n hn o ho, fun n o l hn hl hc => by
        obtain ⟨l1, a1, a2, a3⟩ := entry n o hn
        rw [hl] at a1; cases a1
        obtain ⟨k1, p1, s1, g1, d1, ro1⟩ := a3 hc
        exact ⟨k1, p1, g1, d1, ro1⟩⟩
  · obtain ⟨q1, q2⟩ := castTops_ok (c := c) (ρ := ρ') _ _ a ha oa
    obtain ⟨r1, r2⟩ := rel
    refine ⟨q1.symm.trans r1, fun k v hk => ?_⟩
    obtain ⟨u, hu, hux⟩ := q2 k v hk
    obtain ⟨x, hx, hrx⟩ := r2 k u hu
    exact ⟨x, hx, hux x hrx⟩
  · intro n l hn
    have : c.fresh n = false := by
      cases h : c.fresh n with
      | false => rfl
      | true => rw [hnone n h] at hn; cases hn
    rw [hold n this]
    exact st.le n l hn
  · intro n l h1 h2
    cases hf : c.fresh n with
    | true => exact ⟨(CM.fresh_iff.1 hf).1, Nat.lt_of_lt_of_le (CM.fresh_iff.1 hf).2 hB⟩
    | false =>
      rw [hold n hf] at h2
      exact st.new n l h1 h2
  · intro n o hn
    obtain ⟨l, h1, h2, _⟩ := entry n o hn
    exact ⟨l, h1, h2⟩
  · intro n k o o' l l' hn hk hne hro hl hl' hc hc'
    obtain ⟨l1, a1, a2, a3⟩ := entry n o hn
    obtain ⟨l2, b1, b2, b3⟩ := entry k o' hk
    rw [hl] at a1; cases a1
    rw [hl'] at b1; cases b1
    obtain ⟨k1, p1, s1, g1, d1, ro1⟩ := a3 hc
    obtain ⟨k2, p2, s2, g2, d2, ro2⟩ := b3 hc'
    have hk12 : k1 ≠ k2 := fun x => (apartB_get _ _ e7).2 n k o o' k1 hn hk hne s1 (by rw [x]; exact s2)
    exact st.rep.2 k1 k2 p1 p2 _ _ g1 g2 hk12 (by rw [← ro1, ← ro2]; exact hro) d1 d2 hc hc'
  · refine ⟨st.fr.size, fun q hq hn => st.fr.same q hq (fun ⟨n, hnw, o, l, x1, x2, x3, x4, x5⟩ => hn ⟨n, wrOk_get _ e5 n hnw o x1, o, l, x1, x2, x3, x4, x5⟩), st.fr.tape, st.fr.os, st.fr.output⟩
  · intro n o l hn hl hc hlt
    obtain ⟨l1, a1, a2, a3⟩ := entry n o hn
    rw [hl] at a1; cases a1
    obtain ⟨k1, p1, s1, g1, d1, ro1⟩ := a3 hc
    obtain ⟨n2, o2, l2, y1, y2, y3, y4, y5, y6⟩ := st.own k1 p1 l g1 d1 hc hlt
    refine ⟨n2, o2, l2, y1, y2.trans ro1.symm, y3, y4, y5, ?_⟩
    have hwr : n2 ∈ s.hp.wr → n2 ∈ T.hp.wr := fun h => wrOk_get _ e5 n2 h o2 y1
    rcases y6 with rfl | y6
    · cases hf : c.fresh n with
      | false => unfold CM.src at s1; rw [hf] at s1; cases s1; exact .inl rfl
      | true =>
        have hg : get c.m n = some (.nm n2) := by
          unfold CM.src at s1; rw [hf] at s1; simp only at s1
          split at s1
          · rename_i k hk; cases s1; exact hk
          · cases s1
        rcases oldOk_get _ e6 n o n2 hn hf hg with h | h
        · rw [hnone n2 h] at y3; cases y3
        · exact .inr h
    · exact .inr (hwr y6)
  · intro n l h1 h2
    cases hf : c.fresh n with
    | true =>
      unfold CM.ren at h2
      rw [hf] at h2
      simp only at h2
      cases hg : get c.m n with
      | none => rw [hg] at h2; cases h2
      | some x => exact .inl (namesIn_get m e4 n x hg).2
    | false =>
      rw [hold n hf] at h2
      have h3 := (st.new n l h1 h2).1
      refine .inr ?_
      rcases Nat.lt_or_ge n h0.hi with h4 | h4
      · have : c.fresh n = true := CM.fresh_iff.2 ⟨h3, h4⟩
        rw [this] at hf; cases hf
      · exact h4
  · intro n h1 h2
    rw [e1] at h2
    have hf : c.fresh n = true := CM.fresh_iff.2 ⟨by show h0.nxt ≤ n; omega, h2⟩
    unfold CM.ren
    rw [hf]
    cases hg : get c.m n with
    | none => rfl
    | some x => have := (namesIn_get m e4 n x hg).2; omega

theorem castSt_ok {P : Program} {ρ0 ρ' : Ren} {h0 : Hp} {w0 w1 : World} {m : List (Nat × Src)} {s T : St} {ob : List Prop} (st : Step P ρ0 h0 w0 ρ' s.hp w1) (f0 : Fresh ρ0 h0.nxt h0.hi) (r0 : HeapRep P ρ0 h0.heap w0)
    (e : castSt h0 m s T = some ob) (ho : ∀ p ∈ ob, p) {xs : List Value} (rel : RelL ρ' s.tmps xs) :
    ∃ ρ'', RelL ρ'' T.tmps xs ∧ Step P ρ0 h0 w0 ρ'' T.hp w1 ∧ Fresh ρ'' T.hp.nxt T.hp.hi ∧ h0.nxt ≤ T.hp.nxt ∧ T.hp.hi = h0.hi ∧ ∀ n ∈ h0.wr, n ∈ T.hp.wr := by
  have hs : s.hp.nxt ≤ h0.hi := by
    unfold castSt at e
    split at e
    · rename_i e0 e1 e2 e3 e4 e5 e6 e7
      simpa [Nat.ble_eq] using e3
    · cases e
  obtain ⟨ρ'', q1, q2, q3, q4, q5, q6, q7, _⟩ := castSt_okB (B := h0.hi) ⟨st.le, fun n l a b => ⟨(st.new n l a b).1, Nat.lt_of_lt_of_le (st.new n l a b).2 hs⟩, st.rep, st.fr, st.own⟩ (Nat.le_refl _) f0 e ho rel
  refine ⟨ρ'', q1, ⟨q2.le, fun n l a b => ⟨(q2.new n l a b).1, ?_⟩, q2.rep, q2.fr, q2.own⟩, q4, q5, q6, q7⟩
  rcases q3 n l a b with h | h
  · exact h
  · have := (q2.new n l a b).2; omega

end Go.Ev

/-
  A loop by an invariant: a family of templates.
-/
set_option linter.unusedSimpArgs false
set_option linter.unusedVariables false
namespace Go.Ev

/-- One round of a loop from a template, as it is shown by an evaluation. -/
def RoundOk (E : Env) (c : Code) (s0 : St) (e0 : Ex) (s1 : St) {I : Type} (T : I → St) (μ : I → Nat) (ok : I → Prop) (i : I) : Prop :=
  ∃ fuel hints e s', exec E fuel c ⟨(T i).tmps, ⟨(T i).hp.heap, (T i).hp.nxt, (T i).hp.hi, hints, [], (T i).hp.wr, false⟩⟩ = some (e, s') ∧ Obs s'.hp ∧
    ((e = .norm ∧ ∃ j m ob, ok j ∧ μ j < μ i ∧ castSt s0.hp m s' (T j) = some ob ∧ ∀ p ∈ ob, p) ∨ (e = e0 ∧ e ≠ .norm ∧ ∃ m ob, castSt s0.hp m s' s1 = some ob ∧ ∀ p ∈ ob, p))

theorem Step.of_eq {P : Program} {ρ ρ' : Ren} {h1 h2 k1 k2 : Hp} {w w' : World} (s : Step P ρ h1 w ρ' k1 w') (e1 : h1.heap = h2.heap) (e2 : h1.nxt = h2.nxt) (e3 : k1.heap = k2.heap) (e4 : k1.nxt = k2.nxt) (e5 : k1.wr = k2.wr) : Step P ρ h2 w ρ' k2 w' := by
  obtain ⟨a, b, c, d, e⟩ := s
  rw [e2, e4] at b
  rw [e3] at c
  rw [e1, e5] at d
  rw [e1, e3, e5] at e
  exact ⟨a, b, c, d, e⟩

theorem loop_rule {E : Env} (hE : EnvOk E) {c : Code} {s0 : St} {e0 : Ex} {s1 : St} {I : Type} (T : I → St) (μ : I → Nat) (ok : I → Prop)
    (init : ∃ i m ob, ok i ∧ castSt s0.hp m s0 (T i) = some ob ∧ ∀ p ∈ ob, p) (round : ∀ i, ok i → RoundOk E c s0 e0 s1 T μ ok i) : LoopHolds E.P c s0 e0 s1 := by
  intro ρ a w Q pre post
  have key : ∀ n i, μ i < n → ok i → ∀ ρ' a' w', RelL ρ' (T i).tmps a'.tmps.toList → a'.defers = [] → Step E.P ρ s0.hp w ρ' (T i).hp w' → Fresh ρ' (T i).hp.nxt (T i).hp.hi → s0.hp.nxt ≤ (T i).hp.nxt →
      (T i).hp.hi = s0.hp.hi → (∀ n ∈ s0.hp.wr, n ∈ (T i).hp.wr) → Code.rounds E.P c Q n a' w' := by
    intro n
    induction n with
    | zero => intro i h; omega
    | succ n IH =>
      intro i hi hok ρ' a' w' hrel hdef hst hfr hnx hhi hwr
      obtain ⟨fuel, hints, e, s', hex, hobs, hend⟩ := round i hok
      have o := (all_ok hE fuel).ex _ _ _ _ hex
      rw [rounds_succ]
      refine o.wp hobs ρ' a' w' _ ⟨hrel, hdef, hst.rep, hfr, pre.glob.mono hst.le⟩ (fun ρ2 a2 w2 hr2 hd2 hs2 => ?_)
      have m1 : Mono (⟨s0.hp.heap, s0.hp.nxt, s0.hp.hi, [], [], s0.hp.wr, false⟩ : Hp) ⟨(T i).hp.heap, (T i).hp.nxt, (T i).hp.hi, hints, [], (T i).hp.wr, false⟩ := ⟨fun p hp => hp, hnx, hhi, hwr⟩
      have all : Step E.P ρ s0.hp w ρ2 s'.hp w2 :=
        ((hst.of_eq (h2 := ⟨s0.hp.heap, s0.hp.nxt, s0.hp.hi, [], [], s0.hp.wr, false⟩) (k2 := ⟨(T i).hp.heap, (T i).hp.nxt, (T i).hp.hi, hints, [], (T i).hp.wr, false⟩) rfl rfl rfl rfl rfl).trans hs2 m1 o.mono).of_eq rfl rfl rfl rfl rfl
      rcases hend with ⟨rfl, j, m, ob, hj, hμ, hc, ho⟩ | ⟨rfl, hne, m, ob, hc, ho⟩
      · obtain ⟨ρ3, q1, q2, q3, q4, q5, q6⟩ := castSt_ok all pre.fresh pre.rep hc ho hr2
        exact exOf_then (fun _ => IH j (by omega) hj ρ3 a2 w2 q1 hd2 q2 q3 q4 q5 q6) (fun h => (h rfl).elim)
      · obtain ⟨ρ3, q1, q2, q3, q4, q5, q6⟩ := castSt_ok all pre.fresh pre.rep hc ho hr2
        exact exOf_then (fun h => (hne h).elim) (fun _ => post ρ3 a2 w2 q1 hd2 q2)
  obtain ⟨i, m, ob, hok, hc, ho⟩ := init
  obtain ⟨ρ3, q1, q2, q3, q4, q5, q6⟩ := castSt_ok (Step.refl pre.rep rfl) pre.fresh pre.rep hc ho pre.rel
  exact wp_loop_rounds (μ i + 1) (key (μ i + 1) i (by omega) hok ρ3 a w q1 pre.defers q2 q3 q4 q5 q6)

end Go.Ev

/-
  Contracts over a local heap with names of their own: one contract of a function serves at every call.
-/
set_option linter.unusedSimpArgs false
set_option linter.unusedVariables false
namespace Go.Ev

/-! ### local names -/
/-- What a contract says over a local heap of k blocks: the answer, the heap behind it, how many new blocks, which were written. -/
structure LR where
  k : Nat
  v : AV
  heap : List (Nat × AO)
  n : Nat
  wr : List Nat
  ob : List Prop

def applyLocN (spec : List AV → List (Nat × AO) → Option LR) (args : List AV) (h : Hp) (names : List Nat) : Option (AV × Hp) :=
  match revN (reach h.heap 10000 names []) [] with
  | r0 => match notGlob r0 with
    | r => match renL (toLoc r) args, locHeap (toLoc r) h.heap r0, Nat.ble h.hi (gnm 0), nodupB r with
      | some la, some lh, true, true => match spec la lh with
        | some R => match Nat.beq R.k r.length && Nat.ble (r.length + 1 + R.n) (gnm 0), Nat.ble (h.nxt + R.n) h.hi, outHeap (toOut r h.nxt R.n) R.heap h.heap (r.length + R.n), outNames (toOut r h.nxt R.n) R.wr, renV (toOut r h.nxt R.n) R.v with
          | true, true, some hp, some wr, some v => some (v, ⟨hp, h.nxt + R.n, h.hi, h.hints, R.ob ++ h.ob, addAll wr h.wr, h.auto⟩)
          | _, _, _, _, _ => none
        | none => none
      | _, _, _, _ => none

/-- A contract of what the arguments reach; where it does not fit, of that and of the package-level variables that are known. -/
def applyLoc (spec : List AV → List (Nat × AO) → Option LR) (args : List AV) (h : Hp) : Option (AV × Hp) := match applyLocN spec args h (namesL args) with
  | some x => some x
  | none => match addGlobs h.heap [] with
    | [] => none
    | _ => applyLocN spec args h (addGlobs h.heap (namesL args))

def LocOk (P : Program) (f : FuncId) (la : List AV) (lh : List (Nat × AO)) (R : LR) : Prop :=
  ∀ ρ w, (∀ p ∈ R.ob, p) → HeapRep P ρ lh w → Fresh ρ (R.k + 1) (gnm 0) → GOk ρ → ∀ xs, denL ρ la = some xs →
    Calls P f xs.toArray w fun e w' => ∃ x ρ', e = .returned x ∧ relS ρ' R.v x ∧ Step P ρ ⟨lh, R.k + 1, gnm 0, [], [], [], false⟩ w ρ' ⟨R.heap, R.k + 1 + R.n, gnm 0, [], [], R.wr, false⟩ w'

theorem applyLocN_ok {P : Program} {f : FuncId} {spec : List AV → List (Nat × AO) → Option LR} (H : ∀ la lh R, spec la lh = some R → LocOk P f la lh R) {args : List AV} {h h' : Hp} {v : AV} {names : List Nat} (e : applyLocN spec args h names = some (v, h')) : CaOk P f args h v h' := by
  unfold applyLocN at e
  generalize hr0 : revN (reach h.heap 10000 names []) [] = r0 at e
  simp only at e
  generalize hrr : notGlob r0 = r at e
  split at e
  case h_2 => cases e
  rename_i la lh hla hlh hhi hnd
  split at e
  case h_2 => cases e
  rename_i R hR
  split at e
  case h_2 => cases e
  rename_i hp wr vo hk hnx hout hwr hvo
  cases e
  have hhi : h.hi ≤ gnm 0 := Nat.le_of_ble_eq_true hhi
  have hnd := nodupB_nd r hnd
  simp only [Bool.and_eq_true] at hk
  have hk1 := Nat.eq_of_beq_eq_true hk.1
  have hk2 : r.length + 1 + R.n ≤ gnm 0 := Nat.le_of_ble_eq_true hk.2
  have hnx : h.nxt + R.n ≤ h.hi := Nat.le_of_ble_eq_true hnx
  refine ⟨⟨fun p hp => List.mem_append_right _ hp, by simp, rfl, fun n hn => mem_addAll.2 (.inr hn)⟩, fun ho ρ w hr hf hg xs hx => ?_⟩
  let ρl : Ren := fun l => if gnm 0 ≤ l then ρ l else match l with
    | 0 => none
    | m + 1 => match r[m]? with
      | some b => ρ b
      | none => none
  have hρg : ∀ l, gnm 0 ≤ l → ρl l = ρ l := fun l hl => by simp [ρl, hl]
  have hρi : ∀ m b, m + 1 < gnm 0 → r[m]? = some b → ρl (m + 1) = ρ b := fun m b hm hb => by
    have : ¬ gnm 0 ≤ m + 1 := by omega
    simp [ρl, this, hb]
  have hrl : ∀ m b, r[m]? = some b → m < r.length := fun m b hb => (List.getElem?_eq_some_iff.1 hb).1
  have H1 : ∀ n k, toLoc r n = some k → ρl k = ρ n := by
    intro n k hn
    rcases toLoc_spec hn with ⟨a, rfl⟩ | ⟨a, b, c⟩
    · exact hρg _ a
    · have := hrl _ _ c
      have := hρi (k - 1) n (by omega) c
      rw [← this]; congr 1; omega
  obtain ⟨g1, g2⟩ := locHeap_get r0 lh hlh
  have hrep : HeapRep P ρl lh w := by
    refine ⟨fun k o' hk => ?_, fun k k2 o o2 l l2 ha hb hne hro hl hl2 hc hc2 => ?_⟩
    · obtain ⟨b, hb, o, q1, q2, q3⟩ := g2 k o' hk
      obtain ⟨l, hl, hob⟩ := hr.1 b o q2
      exact ⟨l, (H1 b k q1).trans hl, (renO_rep H1 q3 hob).1⟩
    · obtain ⟨b, hbm, p, q1, q2, q3⟩ := g2 k o ha
      obtain ⟨b', hbm', p', q1', q2', q3'⟩ := g2 k2 o2 hb
      obtain ⟨x1, hx1, hob1⟩ := hr.1 b p q2
      obtain ⟨x2, hx2, hob2⟩ := hr.1 b' p' q2'
      have e1 := (renO_rep H1 q3 hob1).2
      have e2 := (renO_rep H1 q3' hob2).2
      have hbb : b ≠ b' := fun x => by subst x; rw [q1] at q1'; cases q1'; exact hne rfl
      rw [H1 b k q1] at hl
      rw [H1 b' k2 q1'] at hl2
      exact hr.2 b b' p p' l l2 q2 q2' hbb (by rw [← e1, ← e2]; exact hro) hl hl2 hc hc2
  have hfr : Fresh ρl (R.k + 1) (gnm 0) := by
    intro n h1 h2
    have : ¬ gnm 0 ≤ n := by omega
    cases n with
    | zero => omega
    | succ m =>
      have hm : r[m]? = none := by simp; omega
      simp [ρl, this, hm]
  have hgl : GOk ρl := fun g => by
    obtain ⟨l, hl, q⟩ := hg g
    exact ⟨l, (hρg _ (by unfold gnm; omega)).trans hl, q⟩
  have := H la lh R hR ρl w (fun p hp => ho p (List.mem_append_left _ hp)) hrep hfr hgl xs ((renL_den H1 args la hla).trans hx)
  refine this.mono fun ee w' ⟨x, ρl', he, hxv, st⟩ => ?_
  let ρ' : Ren := fun m => if h.nxt ≤ m ∧ m < h.nxt + R.n then ρl' (r.length + 1 + (m - h.nxt)) else ρ m
  have hsome : ∀ b l, ρ b = some l → ¬ (h.nxt ≤ b ∧ b < h.nxt + R.n) := fun b l hb hn => by
    have := hf b hn.1 (by omega); rw [this] at hb; cases hb
  have hle : Le ρ ρ' := fun n l hn => by simp only [ρ']; rw [if_neg (hsome n l hn)]; exact hn
  have hin : ∀ b ∈ r, ∃ o l, get h.heap b = some o ∧ ρ b = some l := fun b hb => by
    rw [← hrr] at hb
    obtain ⟨k, o, o', _, q2, _⟩ := g1 b ((notGlob_mem r0 b).1 hb).1
    obtain ⟨l, hl⟩ := hr.loc q2
    exact ⟨o, l, q2, hl⟩
  have H2 : ∀ l b, toOut r h.nxt R.n l = some b → ρ' b = ρl' l := by
    intro l b hb
    rcases toOut_spec hb with ⟨a, rfl⟩ | ⟨a, m, rfl, hm | ⟨m1, m2, rfl⟩⟩
    · obtain ⟨L, hL, _⟩ := hg (b - gnm 0)
      have eb : gnm (b - gnm 0) = b := by unfold gnm at a ⊢; omega
      rw [eb] at hL
      rw [hle b L hL, st.le b L ((hρg b a).trans hL)]
    · obtain ⟨o, L, _, hL⟩ := hin b (List.mem_of_getElem? hm)
      rw [hle b L hL, st.le (m + 1) L ((hρi m b a hm).trans hL)]
    · simp only [ρ']
      rw [if_pos (by omega)]
      congr 1; omega
  have inj : ∀ i j b, i ≤ r.length + R.n → j ≤ r.length + R.n → 1 ≤ i → 1 ≤ j → toOut r h.nxt R.n i = some b → toOut r h.nxt R.n j = some b → i = j := by
    intro i j b hi hj hi1 hj1 e1 e2
    rcases toOut_spec e1 with ⟨a, _⟩ | ⟨_, m, rfl, hm⟩
    · omega
    rcases toOut_spec e2 with ⟨a, _⟩ | ⟨_, m', rfl, hm'⟩
    · omega
    rcases hm with hm | ⟨m1, m2, rfl⟩
    · rcases hm' with hm' | ⟨m1', m2', rfl⟩
      · obtain ⟨ha, ha'⟩ := List.getElem?_eq_some_iff.1 hm
        obtain ⟨hb, hb'⟩ := List.getElem?_eq_some_iff.1 hm'
        have := (List.getElem_inj hnd).1 (ha'.trans hb'.symm)
        omega
      · obtain ⟨o, L, _, hL⟩ := hin _ (List.mem_of_getElem? hm)
        exact (hsome _ L hL (by omega)).elim
    · rcases hm' with hm' | ⟨m1', m2', e3⟩
      · obtain ⟨o, L, _, hL⟩ := hin _ (List.mem_of_getElem? hm')
        exact (hsome _ L hL (by omega)).elim
      · omega
  obtain ⟨k1, k2⟩ := outHeap_get _ hp hout inj
  -- what a local name with an object stands for
  have loc : ∀ m o1, get lh m = some o1 → m < gnm 0 → ∃ b o2, toOut r h.nxt R.n m = some b ∧ 1 ≤ m ∧ m ≤ r.length ∧ get h.heap b = some o2 ∧ o1.ro = o2.ro ∧ ρl m = ρ b := by
    intro m o1 hm hlt
    obtain ⟨b, hb, o2, q1, q2, q3⟩ := g2 m o1 hm
    obtain ⟨L, hL, hob⟩ := hr.1 b o2 q2
    rcases toLoc_spec q1 with ⟨a, rfl⟩ | ⟨a, c, d⟩
    · omega
    · exact ⟨b, o2, toOut_old c hlt d, c, by have := hrl _ _ d; omega, q2, (renO_rep H1 q3 hob).2, H1 b m q1⟩
  have wrin : ∀ m ∈ R.wr, m < gnm 0 ∧ ∃ b, toOut r h.nxt R.n m = some b ∧ b ∈ wr := outNames_get _ _ hwr
  have stay : ∀ b o L, (∀ l, 1 ≤ l → l ≤ r.length + R.n → toOut r h.nxt R.n l ≠ some b) → get h.heap b = some o → ρ b = some L → L.cap ≠ 0 → w'.heap[L.blk]? = w.heap[L.blk]? := by
    intro b o L hb hgb hL hc
    obtain ⟨L', hL', hob⟩ := hr.1 b o hgb
    rw [hL] at hL'; cases hL'
    refine st.fr.same L.blk (hob.lt hc) ?_
    rintro ⟨m, hm, o1, L1, y1, y2, y3, y4, y5⟩
    obtain ⟨hlt, _⟩ := wrin m hm
    obtain ⟨b1, o2, z1, z2, z3, z4, z5, z6⟩ := loc m o1 y1 hlt
    have hne : b1 ≠ b := fun x => by subst x; exact hb m z2 (by omega) z1
    rw [z6] at y3
    exact hr.2 b1 b o2 o L1 L z4 hgb hne (by rw [← z5, y2]; rfl) y3 hL y4 hc y5
  have apart : ∀ l o' L1 b2 o2 L2, 1 ≤ l → l ≤ r.length + R.n → get R.heap l = some o' → ρl' l = some L1 → L1.cap ≠ 0 → (∀ l, 1 ≤ l → l ≤ r.length + R.n → toOut r h.nxt R.n l ≠ some b2) → get h.heap b2 = some o2 → ρ b2 = some L2 → L2.cap ≠ 0 →
      (o'.ro && o2.ro) = false → L1.blk ≠ L2.blk := by
    intro l o' L1 b2 o2 L2 hl1 hl2 hgl hL1 hc1 hb2 hg2 hL2 hc2 hro heq
    obtain ⟨L', hL', hob⟩ := hr.1 b2 o2 hg2
    rw [hL2] at hL'; cases hL'
    have hlt := hob.lt hc2
    obtain ⟨m, o3, L3, y1, y2, y3, y4, y5, y6⟩ := st.own l o' L1 hgl hL1 hc1 (by rw [heq]; exact hlt)
    have hm : m < gnm 0 := by
      rcases y6 with rfl | y6
      · omega
      · exact (wrin m y6).1
    obtain ⟨b1, o4, z1, z2, z3, z4, z5, z6⟩ := loc m o3 y1 hm
    have hne : b1 ≠ b2 := fun x => by subst x; exact hb2 m z2 (by omega) z1
    rw [z6] at y3
    exact hr.2 b1 b2 o4 o2 L3 L2 z4 hg2 hne (by rw [← z5, y2]; exact hro) y3 hL2 y4 hc2 (y5.trans heq)
  have kind : ∀ b o, get hp b = some o → (∃ l o' , 1 ≤ l ∧ l ≤ r.length + R.n ∧ toOut r h.nxt R.n l = some b ∧ get R.heap l = some o' ∧ renO (toOut r h.nxt R.n) o' = some o ∧ ∃ L, ρl' l = some L ∧ ObjRep P ρ' w' L o ∧ o.ro = o'.ro) ∨
      ((∀ l, 1 ≤ l → l ≤ r.length + R.n → toOut r h.nxt R.n l ≠ some b) ∧ get h.heap b = some o) := by
    intro b o hb
    by_cases hex : ∃ l, 1 ≤ l ∧ l ≤ r.length + R.n ∧ toOut r h.nxt R.n l = some b
    · obtain ⟨l, h1, h2, h3⟩ := hex
      obtain ⟨c, hc, q⟩ := k1 l h1 h2
      rw [h3] at hc; cases hc
      obtain ⟨o', q1, q2⟩ := q o hb
      obtain ⟨L, hL, hob⟩ := st.rep.1 l o' q1
      obtain ⟨z1, z2⟩ := renO_rep H2 q2 hob
      exact .inl ⟨l, o', h1, h2, h3, q1, q2, L, hL, z1, z2⟩
    · have hno : ∀ l, 1 ≤ l → l ≤ r.length + R.n → toOut r h.nxt R.n l ≠ some b := fun l h1 h2 h3 => hex ⟨l, h1, h2, h3⟩
      exact .inr ⟨hno, (k2 b hno) ▸ hb⟩
  refine ⟨x, ρ', he, renV_rel H2 hvo hxv, hle, fun n l h1 h2 => ?_, ⟨fun b o hb => ?_, fun b c o1 o2 L1 L2 hb hc hne hro hL1 hL2 hc1 hc2 => ?_⟩, ⟨st.fr.size, fun b hb hn => st.fr.same b hb ?_, st.fr.tape, st.fr.os, st.fr.output⟩, fun b o L hb hL hc hlt => ?_⟩
  · simp only [ρ'] at h2
    split at h2
    · rename_i hh; exact hh
    · rw [h1] at h2; cases h2
  · rcases kind b o hb with ⟨l, o', a1, a2, a3, a4, a5, L, a6, a7, _⟩ | ⟨a1, a2⟩
    · exact ⟨L, (H2 l b a3).trans a6, a7⟩
    · obtain ⟨L, hL, hob⟩ := hr.1 b o a2
      exact ⟨L, hle b L hL, hob.keep hle (fun hc => stay b o L a1 a2 hL hc)⟩
  · rcases kind b o1 hb with ⟨l, o', a1, a2, a3, a4, a5, L, a6, a7, a8⟩ | ⟨a1, a2⟩
    · rw [H2 l b a3, a6] at hL1; cases hL1
      rcases kind c o2 hc with ⟨l', o'', b1, b2, b3, b4, b5, L', b6, b7, b8⟩ | ⟨b1, b2⟩
      · rw [H2 l' c b3, b6] at hL2; cases hL2
        have hll : l ≠ l' := fun x => by subst x; rw [a3] at b3; cases b3; exact hne rfl
        exact st.rep.2 l l' o' o'' _ _ a4 b4 hll (by rw [← a8, ← b8]; exact hro) a6 b6 hc1 hc2
      · obtain ⟨L', hL', _⟩ := hr.1 c o2 b2
        rw [hle c L' hL'] at hL2; cases hL2
        exact apart l o' _ c o2 _ a1 a2 a4 a6 hc1 b1 b2 hL' hc2 (by rw [← a8]; exact hro)
    · obtain ⟨L, hL, _⟩ := hr.1 b o1 a2
      rw [hle b L hL] at hL1; cases hL1
      rcases kind c o2 hc with ⟨l', o'', b1, b2, b3, b4, b5, L', b6, b7, b8⟩ | ⟨b1, b2⟩
      · rw [H2 l' c b3, b6] at hL2; cases hL2
        exact (apart l' o'' _ b o1 _ b1 b2 b4 b6 hc2 a1 a2 hL hc1 (by rw [← b8, Bool.and_comm]; exact hro)).symm
      · obtain ⟨L', hL', _⟩ := hr.1 c o2 b2
        rw [hle c L' hL'] at hL2; cases hL2
        exact hr.2 b c o1 o2 _ _ a2 b2 hne hro hL hL' hc1 hc2
  · rintro ⟨m, hm, o1, L1, y1, y2, y3, y4, y5⟩
    obtain ⟨hlt, c, hc, hcw⟩ := wrin m hm
    obtain ⟨b1, o2, z1, z2, z3, z4, z5, z6⟩ := loc m o1 y1 hlt
    rw [hc] at z1; cases z1
    rw [z6] at y3
    exact hn ⟨c, mem_addAll.2 (.inl hcw), o2, L1, z4, z5.symm.trans y2, y3, y4, y5⟩
  · rcases kind b o hb with ⟨l, o', a1, a2, a3, a4, a5, L', a6, a7, a8⟩ | ⟨a1, a2⟩
    · rw [H2 l b a3, a6] at hL; cases hL
      obtain ⟨m, o3, L3, y1, y2, y3, y4, y5, y6⟩ := st.own l o' _ a4 a6 hc hlt
      have hm : m < gnm 0 := by
        rcases y6 with rfl | y6
        · omega
        · exact (wrin m y6).1
      obtain ⟨b1, o4, z1, z2, z3, z4, z5, z6⟩ := loc m o3 y1 hm
      rw [z6] at y3
      refine ⟨b1, o4, L3, z4, (z5.symm.trans y2).trans a8.symm, y3, y4, y5, ?_⟩
      rcases y6 with rfl | y6
      · rw [a3] at z1; cases z1; exact .inl rfl
      · obtain ⟨_, c, hc', hcw⟩ := wrin m y6
        rw [hc'] at z1; cases z1
        exact .inr (mem_addAll.2 (.inl hcw))
    · obtain ⟨L', hL', _⟩ := hr.1 b o a2
      rw [hle b L' hL'] at hL; cases hL
      exact ⟨b, o, _, a2, rfl, hL', hc, rfl, .inl rfl⟩

theorem applyLoc_ok {P : Program} {f : FuncId} {spec : List AV → List (Nat × AO) → Option LR} (H : ∀ la lh R, spec la lh = some R → LocOk P f la lh R) {args : List AV} {h h' : Hp} {v : AV} (e : applyLoc spec args h = some (v, h')) : CaOk P f args h v h' := by
  unfold applyLoc at e
  split at e
  · rename_i x hx
    cases e
    exact applyLocN_ok H hx
  · split at e
    · cases e
    · exact applyLocN_ok H e
end Go.Ev

/-
  From a row's start to the evaluator's, and back to what a row asks behind the call.
-/
set_option linter.unusedSimpArgs false
set_option linter.unusedVariables false
namespace Go.Ev

/-! ### a type's leaves -/
def leavesFs (P : Program) (rec : TypeId → Option (List TypeId)) : Nat → List Field → Option (List TypeId)
  | _, [] => some []
  | off, f :: r => match Nat.beq f.offset off, rec f.type with
    | true, some l => match Nat.beq (P.cellsOf f.type) l.length, leavesFs P rec (off + l.length) r with
      | true, some m => some (l ++ m)
      | _, _ => none
    | _, _ => none

def repL {α : Type} : Nat → List α → List α
  | 0, _ => []
  | n + 1, l => l ++ repL n l
theorem repL_length {α : Type} : ∀ (n : Nat) (l : List α), (repL n l).length = n * l.length
  | 0, l => by simp [repL]
  | n + 1, l => by simp [repL, repL_length n l, Nat.add_mul, Nat.add_comm]
theorem repL_get {α : Type} : ∀ (n : Nat) (l : List α) (j : Nat) (u : α), (repL n l)[j]? = some u → ∃ i k, i < n ∧ j = i * l.length + k ∧ l[k]? = some u
  | 0, l, j, u, h => by simp [repL] at h
  | n + 1, l, j, u, h => by
    simp only [repL] at h
    by_cases hj : j < l.length
    · rw [List.getElem?_append_left hj] at h
      exact ⟨0, j, by omega, by omega, h⟩
    · rw [List.getElem?_append_right (by omega)] at h
      obtain ⟨i, k, h1, h2, h3⟩ := repL_get n l _ u h
      exact ⟨i + 1, k, by omega, by rw [Nat.add_mul]; omega, h3⟩

def leaves (P : Program) : Nat → TypeId → Option (List TypeId)
  | 0, _ => none
  | n + 1, t => match P.underlying t with
    | some (.struct fs) => match leavesFs P (leaves P n) 0 fs.toList with
      | some l => match Nat.beq (P.cellsOf t) l.length with
        | true => some l
        | false => none
      | none => none
    | some .bool => some [t]
    | some (.int _) => some [t]
    | some (.slice _) => some [t]
    | some (.array c e) => match leaves P n e with
      | some l => match Nat.beq (P.cellsOf e) l.length, Nat.beq (P.cellsOf t) (c * l.length) with
        | true, true => some (repL c l)
        | _, _ => none
      | none => none
    | _ => none

section
variable {H : Type} {enc : TypeId × Value → H} {P : Program} {w : World} {base : Nat} {spare : Nat → Bool} {held : Bool}

theorem leavesFs_trod {rec : TypeId → Option (List TypeId)} {cs : List Value}
    (hrec : ∀ t l, rec t = some l → ∀ fuel cs x, DataW.trod enc P w base spare held fuel t cs = some x → cs.length = l.length ∧ ∀ (j : Nat) u, l[j]? = some u → ∃ v m y, cs[j]? = some v ∧ DataW.trod enc P w base spare held m u [v] = some y) :
    ∀ (fs : List Field) (off : Nat) (l : List TypeId), leavesFs P rec off fs = some l →
      (∀ f ∈ fs, ∃ m y, DataW.trod enc P w base spare held m f.type ((cs.drop f.offset).take (P.cellsOf f.type)) = some y) →
      ∀ (j : Nat) u, l[j]? = some u → ∃ v m y, cs[off + j]? = some v ∧ DataW.trod enc P w base spare held m u [v] = some y
  | [], off, l, h, _, j, u, hj => by simp [leavesFs] at h; subst h; simp at hj
  | f :: r, off, l, h, ht, j, u, hj => by
    simp only [leavesFs] at h
    split at h
    · rename_i l1 hoff hl1
      have hoff := Nat.eq_of_beq_eq_true hoff
      split at h
      · rename_i m hc hm
        have hc := Nat.eq_of_beq_eq_true hc
        cases h
        by_cases hlt : j < l1.length
        · obtain ⟨mm, y, hy⟩ := ht f (by simp)
          obtain ⟨q1, q2⟩ := hrec _ _ hl1 _ _ _ hy
          rw [List.getElem?_append_left hlt] at hj
          obtain ⟨v, m', y', h1, h2⟩ := q2 j u hj
          refine ⟨v, m', y', ?_, h2⟩
          rw [List.getElem?_take, if_pos (by omega), List.getElem?_drop, hoff] at h1
          exact h1
        · rw [List.getElem?_append_right (by omega)] at hj
          obtain ⟨v, m', y', h1, h2⟩ := leavesFs_trod hrec r _ m hm (fun g hg => ht g (by simp [hg])) _ u hj
          refine ⟨v, m', y', ?_, h2⟩
          rw [← h1]; congr 1; omega
      · cases h
    · cases h

theorem arr_trod {t : TypeId} {fuel : Nat} {cs : List Value} {x : DataW H × List MemPlace} {n : Nat} {e : TypeId} (ht : P.underlying t = some (.array n e)) (h : DataW.trod enc P w base spare held fuel t cs = some x) :
    ∃ (xs : List (DataW H × List MemPlace)) (m : Nat), fuel = m + 1 ∧ x = (.agg (xs.map (·.1)), xs.flatMap (·.2)) ∧ cs.length = P.cellsOf t ∧ xs.length = n ∧
      ∀ (i : Nat), i < n → DataW.trod enc P w base spare held m e ((cs.drop (i * P.cellsOf e)).take (P.cellsOf e)) = xs[i]? := by
  cases fuel with
  | zero => simp [DataW.trod] at h
  | succ m =>
    unfold DataW.trod at h
    rw [ht] at h
    split at h <;> simp_all
    obtain ⟨hl, xs, hp, hd⟩ := h
    exact ⟨xs, hd.symm, by simpa using mapM_some_length hp, fun i hi => mapM_some_get hp i i (by simp [hi])⟩

theorem leaves_trod : ∀ (n : Nat) (t : TypeId) (l : List TypeId), leaves P n t = some l → ∀ fuel cs x, DataW.trod enc P w base spare held fuel t cs = some x →
    cs.length = l.length ∧ ∀ (j : Nat) u, l[j]? = some u → ∃ v m y, cs[j]? = some v ∧ DataW.trod enc P w base spare held m u [v] = some y
  | 0, t, l, h, _, _, _, _ => by simp [leaves] at h
  | n + 1, t, l, h, fuel, cs, x, hx => by
    simp only [leaves] at h
    split at h
    · rename_i fs hfs
      split at h
      · rename_i l' hl'
        split at h
        · rename_i hc
          have hc := Nat.eq_of_beq_eq_true hc
          cases h
          obtain ⟨xs, m, rfl, _, hlen, hsz, hf⟩ := DataW.trod_struct hfs hx
          refine ⟨by omega, fun j u hj => ?_⟩
          obtain ⟨v, m', y', h1, h2⟩ := leavesFs_trod (cs := cs) (fun t l hl fuel cs x => leaves_trod n t l hl fuel cs x) fs.toList 0 _ hl' (fun f hf' => by
            obtain ⟨i, hi⟩ := List.getElem?_of_mem hf'
            have hi' : fs[i]? = some f := by simpa using hi
            have hlt : i < fs.size := (Array.getElem?_eq_some_iff.1 hi').1
            rw [← hsz] at hlt
            exact ⟨m, xs[i], by rw [hf i f hi']; simp [hlt]⟩) j u hj
          exact ⟨v, m', y', by simpa using h1, h2⟩
        · cases h
      · cases h
    · rename_i hu
      cases h
      obtain ⟨b, rfl, _⟩ := DataW.trod_bool hu hx
      refine ⟨rfl, fun j u hj => ?_⟩
      cases j with
      | zero => simp at hj; subst hj; exact ⟨_, _, _, rfl, hx⟩
      | succ j => simp at hj
    · rename_i hu
      cases h
      obtain ⟨b, rfl, _⟩ := DataW.trod_int hu hx
      refine ⟨rfl, fun j u hj => ?_⟩
      cases j with
      | zero => simp at hj; subst hj; exact ⟨_, _, _, rfl, hx⟩
      | succ j => simp at hj
    · rename_i hu
      cases h
      have : ∃ v, cs = [v] := by
        rcases DataW.trod_slice hu hx with ⟨rfl, _⟩ | ⟨a, len, cap, elems, rest, n, _, rfl, _⟩
        · exact ⟨_, rfl⟩
        · exact ⟨_, rfl⟩
      obtain ⟨v, rfl⟩ := this
      refine ⟨rfl, fun j u hj => ?_⟩
      cases j with
      | zero => simp at hj; subst hj; exact ⟨_, _, _, rfl, hx⟩
      | succ j => simp at hj
    · rename_i c e he
      split at h
      · rename_i l' hl'
        split at h
        · rename_i hc1 hc2
          have hc1 := Nat.eq_of_beq_eq_true hc1
          have hc2 := Nat.eq_of_beq_eq_true hc2
          cases h
          obtain ⟨xs, m, rfl, _, hlen, hsz, hf⟩ := arr_trod he hx
          refine ⟨by rw [repL_length]; omega, fun j u hj => ?_⟩
          obtain ⟨i, k, hi, rfl, hk⟩ := repL_get _ _ _ _ hj
          have hlt : i < xs.length := by omega
          have h1 := hf i hi
          rw [List.getElem?_eq_getElem hlt] at h1
          obtain ⟨q1, q2⟩ := leaves_trod n e l' hl' _ _ _ h1
          obtain ⟨v, m', y', r1, r2⟩ := q2 k u hk
          refine ⟨v, m', y', ?_, r2⟩
          have hkl : k < l'.length := (List.getElem?_eq_some_iff.1 hk).1
          rw [List.getElem?_take, if_pos (by omega), List.getElem?_drop, hc1] at r1
          exact r1
        · cases h
      · cases h
    · cases h

/-! ### the kinds of leaves -/
def leafKinds (P : Program) : List TypeId → Option (List CK)
  | [] => some []
  | t :: r => match P.underlying t, leafKinds P r with
    | some .bool, some l => some (.bool :: l)
    | some (.int k), some l => some (.int k :: l)
    | _, _ => none

def flatK (P : Program) (n : Nat) (t : TypeId) : Option (List CK) := match leaves P n t with
  | some l => leafKinds P l
  | none => none

def CellK (k : CK) (v : Value) : Prop := match k with
  | .int k => ∃ n, v = .int k n ∧ (Lit.int k n).wf = true
  | .bool => ∃ b, v = .bool b
  | .val => False

theorem leafKinds_length : ∀ (l : List TypeId) (ks : List CK), leafKinds P l = some ks → ks.length = l.length
  | [], ks, h => by simp [leafKinds] at h; subst h; rfl
  | t :: r, ks, h => by
    simp only [leafKinds] at h
    split at h
    · rename_i l hu hl; cases h; simp [leafKinds_length r l hl]
    · rename_i k l hu hl; cases h; simp [leafKinds_length r l hl]
    · cases h

theorem leafKinds_get : ∀ (l : List TypeId) (ks : List CK), leafKinds P l = some ks → ∀ (j : Nat) k, ks[j]? = some k → ∃ u, l[j]? = some u ∧
    ((k = .bool ∧ P.underlying u = some .bool) ∨ ∃ i, k = .int i ∧ P.underlying u = some (.int i))
  | [], ks, h, j, k, hk => by simp [leafKinds] at h; subst h; simp at hk
  | t :: r, ks, h, j, k, hk => by
    simp only [leafKinds] at h
    split at h
    · rename_i l hu hl
      cases h
      cases j with
      | zero => simp at hk; subst hk; exact ⟨t, rfl, .inl ⟨rfl, hu⟩⟩
      | succ j => exact leafKinds_get r l hl j k (by simpa using hk)
    · rename_i i l hu hl
      cases h
      cases j with
      | zero => simp at hk; subst hk; exact ⟨t, rfl, .inr ⟨i, rfl, hu⟩⟩
      | succ j => exact leafKinds_get r l hl j k (by simpa using hk)
    · cases h

theorem flat_trod {n : Nat} {t : TypeId} {ks : List CK} (h : flatK P n t = some ks) {fuel : Nat} {cs : List Value} {x : DataW H × List MemPlace} (hx : DataW.trod enc P w base spare held fuel t cs = some x) :
    cs.length = ks.length ∧ ∀ (j : Nat) k, ks[j]? = some k → ∃ v, cs[j]? = some v ∧ CellK k v := by
  unfold flatK at h
  split at h
  · rename_i l hl
    obtain ⟨h1, h2⟩ := leaves_trod n t l hl fuel cs x hx
    refine ⟨by rw [leafKinds_length l ks h]; exact h1, fun j k hk => ?_⟩
    obtain ⟨u, hu, hk'⟩ := leafKinds_get l ks h j k hk
    obtain ⟨v, m, y, hv, hy⟩ := h2 j u hu
    refine ⟨v, hv, ?_⟩
    rcases hk' with ⟨rfl, hb⟩ | ⟨i, rfl, hb⟩
    · obtain ⟨b, hb, _⟩ := DataW.trod_bool hb hy
      exact ⟨b, by simpa using hb⟩
    · obtain ⟨b, hb, _, hw⟩ := DataW.trod_int hb hy
      exact ⟨b, by simpa using hb, hw⟩
  · cases h

/-- Cells of given kinds, one by one. -/
def CellsP : List CK → (List Value → Prop) → Prop
  | [], Q => Q []
  | .int k :: ks, Q => ∃ n, (Lit.int k n).wf = true ∧ CellsP ks (fun vs => Q (.int k n :: vs))
  | .bool :: ks, Q => ∃ b, CellsP ks (fun vs => Q (.bool b :: vs))
  | .val :: _, _ => False

theorem cellsP_of : ∀ (ks : List CK) (cs : List Value) (Q : List Value → Prop), cs.length = ks.length → (∀ (j : Nat) k, ks[j]? = some k → ∃ v, cs[j]? = some v ∧ CellK k v) → Q cs → CellsP ks Q
  | [], cs, Q, hl, h, q => by
    have : cs = [] := by simpa using hl
    subst this; exact q
  | k :: ks, [], Q, hl, h, q => by simp at hl
  | k :: ks, c :: cs, Q, hl, h, q => by
    have h0 := h 0 k rfl
    obtain ⟨v, hv, hk⟩ := h0
    simp at hv
    subst hv
    have rest := fun Q' q' => cellsP_of ks cs Q' (by simpa using hl) (fun j k hj => by simpa using h (j + 1) k (by simpa using hj)) q'
    cases k with
    | int k => obtain ⟨n, rfl, hw⟩ := hk; exact ⟨n, hw, rest _ q⟩
    | bool => obtain ⟨b, rfl⟩ := hk; exact ⟨b, rest _ q⟩
    | val => exact hk.elim

/-- A struct of integers and bools among the arguments. -/
theorem open_flat {r : Reach} {b0 : Nat} {n : Nat} {t : TypeId} {fs : Array Field} {ks : List CK} {v : Value} {d : DataW H} {p : List MemPlace} (hs : P.underlying t = some (.struct fs)) (hk : flatK P n t = some ks)
    (hv : Value.okWide P w r b0 t v) (h : DataW.Trod enc P w base spare held t v d p) : CellsP ks (fun vs => v = .agg vs.toArray) := by
  simp only [Value.okWide, hs] at hv
  obtain ⟨cs, rfl, _, _⟩ := hv
  obtain ⟨fuel, hf⟩ := h
  obtain ⟨h1, h2⟩ := flat_trod hk hf
  exact cellsP_of ks _ _ h1 h2 (by simp [Value.cells])

/-! ### slices -/
def rowAV (sh : List CK) (num : Nat → Nat → Int) (bit : Nat → Nat → Bool) : Nat → Nat → AV := fun i j => match nth sh j with
  | some (.int k) => .sym k (num i j)
  | some .bool => .symb (bit i j)
  | _ => .top

def numOf : Option Value → Int
  | some (.int _ n) => n
  | _ => 0
def bitOf : Option Value → Bool
  | some (.bool b) => b
  | _ => false

/-- A slice of rows of integers and bools, that is only read. -/
theorem okWide_num {P : Program} {w : World} {r : Reach} {b0 : Nat} {t : TypeId} {v : Value} {k : IntKind} (ht : P.underlying t = some (.int k)) (h : Value.okWide P w r b0 t v) : ∃ n, v = .int k n ∧ (Lit.int k n).wf = true := by
  simp only [Value.okWide, ht, Cell.okWide] at h
  cases v <;> simp_all [Cell.ok, IntKind.has, Lit.wf]

theorem open_flat_arr {r : Reach} {b0 : Nat} {n : Nat} {t el : TypeId} {cnt : Nat} {ks : List CK} {v : Value} {d : DataW H} {p : List MemPlace} (hs : P.underlying t = some (.array el cnt)) (hk : flatK P n t = some ks)
    (hv : Value.okWide P w r b0 t v) (h : DataW.Trod enc P w base spare held t v d p) : CellsP ks (fun vs => v = .agg vs.toArray) := by
  simp only [Value.okWide, hs] at hv
  obtain ⟨cs, rfl, _, _⟩ := hv
  obtain ⟨fuel, hf⟩ := h
  obtain ⟨h1, h2⟩ := flat_trod hk hf
  exact cellsP_of ks _ _ h1 h2 (by simp [Value.cells])

theorem open_rows {n : Nat} {t e : TypeId} {ks : List CK} {fuel : Nat} {v : Value} {x : DataW H × List MemPlace} (ht : P.underlying t = some (.slice e)) (hk : flatK P n e = some ks) (hc : P.cellsOf e = ks.length) (hpos : 0 < ks.length)
    (hsp : ∀ a l c, v = .slice (some a) l c → a.spot = none)
    (h : DataW.trod enc P w base (fun _ => true) held fuel t [v] = some x) :
    ∃ (l : Loc) (len : Nat) (num : Nat → Nat → Int) (bit : Nat → Nat → Bool), l.wid = ks.length ∧ l.slice ks.length 0 len none = some v ∧ len ≤ l.cap ∧ l.cap ≤ maxLen ∧ (l.cap ≠ 0 → l.isnil = false) ∧
      (∀ ρ, ObjRep P ρ w l (.arr ks.length ks true len (rowAV ks num bit))) ∧ (∀ i, i < len → ∀ (j : Nat) k, ks[j]? = some (.int k) → (Lit.int k (num i j)).wf = true) := by
  rcases DataW.trod_slice ht h with ⟨h0, _⟩ | ⟨a, len, cap, elems, rest, m, _, hcs, _, hb, hl, hm, hlen, hel, hspare, _⟩
  · simp at h0
    subst h0
    refine ⟨⟨0, 0, ks.length, 0, true⟩, 0, fun _ _ => 0, fun _ _ => false, rfl, by simp [Loc.slice, capOr], Nat.le_refl _, Nat.zero_le _, fun h => (h rfl).elim, fun ρ => ⟨rfl, rfl, Nat.le_refl _, fun _ => rfl, fun h => (h rfl).elim⟩, fun i hi => by omega⟩
  · simp at hcs
    subst hcs
    have hspot := hsp a len cap rfl
    obtain ⟨blk, off, spot⟩ := a
    simp only at hspot
    subst hspot
    -- the row's cells
    have key : ∀ i, i < cap → ∃ cs y, w.cells? base ((⟨blk, off, none⟩ : Addr).add (i * ks.length)) ks.length = some cs ∧ DataW.trod enc P w base (fun _ => true) held m e cs = some y := by
      intro i hi
      by_cases hil : i < len
      · have h1 := hel i hil
        have : elems[i]? = some elems[i] := by simp [hlen, hil]
        rw [this, hc, Option.bind_eq_some_iff] at h1
        obtain ⟨cs, h1, h2⟩ := h1
        exact ⟨cs, _, h1, h2⟩
      · obtain ⟨hr, h1⟩ := hspare rfl
        have h1 := h1 (i - len) (by omega)
        have hlt : i - len < rest.length := by omega
        have : rest[i - len]? = some rest[i - len] := by simp [hlt]
        rw [this, hc, Option.bind_eq_some_iff, show len + (i - len) = i by omega] at h1
        obtain ⟨cs, h1, h2⟩ := h1
        exact ⟨cs, _, h1, h2⟩
    have cell : ∀ i, i < cap → ∀ (j : Nat) k, ks[j]? = some k → ∃ v, w.cell? ⟨blk, off + i * ks.length + j, none⟩ = some v ∧ CellK k v := by
      intro i hi j k hj
      obtain ⟨cs, y, h1, h2⟩ := key i hi
      obtain ⟨q1, q2⟩ := flat_trod hk h2
      obtain ⟨v, hv, hk'⟩ := q2 j k hj
      have hjl : j < ks.length := (List.getElem?_eq_some_iff.1 hj).1
      have := (World.cells?_some h1).2.2 j hjl
      refine ⟨v, ?_, hk'⟩
      rw [hv] at this
      rw [← this]
      simp only [Addr.add]
      split <;> split <;> simp_all <;> omega
    refine ⟨⟨blk, off, ks.length, cap, false⟩, len, fun i j => numOf (w.cell? ⟨blk, off + i * ks.length + j, none⟩), fun i j => bitOf (w.cell? ⟨blk, off + i * ks.length + j, none⟩), rfl, ?_, hl, hm, fun _ => rfl, fun ρ => ⟨rfl, rfl, hl, fun h => (by cases h), fun hcap => ?_⟩, ?_⟩
    · simp [Loc.slice, capOr, hl]
    · simp only at hcap
      obtain ⟨k0, hk0⟩ : ∃ k, ks[0]? = some k := ⟨ks[0], by simp [hpos]⟩
      obtain ⟨v0, hv0, _⟩ := cell 0 (by omega) 0 k0 hk0
      cases hB : w.heap[blk]? with
      | none => simp [World.cell?, hB] at hv0
      | some o =>
        cases o with
        | cells c t' fr =>
          refine ⟨c, t', fr, rfl, fun h => (by cases h), ?_, ?_⟩
          · obtain ⟨kl, hkl⟩ : ∃ k, ks[ks.length - 1]? = some k := ⟨ks[ks.length - 1], by simp⟩
            obtain ⟨vl, hvl, _⟩ := cell (cap - 1) (by omega) _ kl hkl
            simp only [World.cell?, hB] at hvl
            have := (Array.getElem?_eq_some_iff.1 (by simpa using hvl)).1
            have e1 : cap * ks.length = (cap - 1) * ks.length + ks.length := by
              rw [← Nat.succ_mul]; congr 1; omega
            simp only
            omega
          · intro i hi j k hj
            obtain ⟨v, hv, hk'⟩ := cell i (by omega) j k hj
            have hv' : c[off + i * ks.length + j]? = some v := by simpa [World.cell?, hB] using hv
            have hn : nth ks j = some k := by rw [nth_eq]; exact hj
            cases k with
            | int k =>
              obtain ⟨n, rfl, _⟩ := hk'
              refine ⟨⟨n, .inr (by simp [rowAV, hn, hv, numOf])⟩, _, hv', by simp [rowAV, hn, hv, numOf, den]⟩
            | bool =>
              obtain ⟨b, rfl⟩ := hk'
              refine ⟨⟨b, .inr (by simp [rowAV, hn, hv, bitOf])⟩, _, hv', by simp [rowAV, hn, hv, bitOf, den]⟩
            | val => exact hk'.elim
        | _ => simp [World.cell?, hB] at hv0
    · intro i hi j k hj
      obtain ⟨v, hv, n, rfl, hw⟩ := cell i (by omega) j _ hj
      simp [hv, numOf, hw]

end

/-- What stood before the call stands. -/
theorem Fr.below {w w' : World} {B : Nat → Prop} (h : Fr w w' B) (hB : ∀ b, b < w.heap.size → ¬ B b) : RowKit.Below w.heap.size w w' :=
  ⟨h.os, h.tape, h.output, h.size, fun k hk => h.same k hk (hB k hk)⟩

section
variable {H : Type} {enc : TypeId × Value → H} {P : Program}

theorem trodAll_below (hl : laidOutB P = true) {W W' : World} (hb : RowKit.Below W.heap.size W W') :
    ∀ {ts : List TypeId} {vs : List Value} {ds : List (DataW H)} {ps : List MemPlace}, (∀ t ∈ ts, P.readableRec t = true ∧ t < P.types.size) → DataW.TrodAll enc P W 0 (fun _ => true) true ts vs ds ps →
      (∀ x ∈ ps, x.block < W.heap.size) → DataW.TrodAll enc P W' 0 (fun b => decide (b < W.heap.size)) true ts vs ds ps
  | [], [], [], ps, _, h, _ => h
  | t :: ts, v :: vs, d :: ds, ps, ht, h, hlt => by
    obtain ⟨p, q, h1, h2, rfl⟩ := h
    exact ⟨p, q, RowKit.Below.trod hl (ht t (by simp)).1 (ht t (by simp)).2 h1 hb (fun x hx => hlt x (by simp [hx])), trodAll_below hl hb (fun t h => ht t (by simp [h])) h2 (fun x hx => hlt x (by simp [hx])), rfl⟩
  | [], _ :: _, _, _, _, h, _ => by cases h
  | [], [], _ :: _, _, _, h, _ => by cases h
  | _ :: _, [], _, _, _, h, _ => by cases h
  | _ :: _, _ :: _, [], _, _, h, _ => by cases h

/-- What a row of a law asks behind the call. -/
theorem law_post {f : Func} {s : ChangeSpec} {apart fresh handsOn : Bool} {W W' : World} {args : Array Value} {ds gs : List (DataW H)} {before : List MemPlace} {tb : TypeId}
    (hl : laidOutB P = true) (hts : ∀ t ∈ f.params.toList, P.readableRec t = true ∧ t < P.types.size) (hr : f.resultTypes = #[tb]) (htb : P.underlying tb = some .bool)
    (hvars : s.vars = []) (hW : DataW.Whole enc P f.params.toList s.vars apart W args.toList ds gs before)
    (hres : (s.fn H (ds ++ gs)).results = [.lit (.bool true)]) (hargs : (s.fn H (ds ++ gs)).args = ds) (hvs : (s.fn H (ds ++ gs)).vars = [])
    (hb : RowKit.Below W.heap.size W W') : s.post enc P f apart fresh handsOn false W args (.bool true) W' := by
  have hlt := hW.lt
  have hW0 := hW
  obtain ⟨p, q, hA, hV, rfl, _, _⟩ := hW0
  rw [hvars] at hV
  cases gs with
  | cons g gs => cases hV
  | nil =>
    refine ⟨ds, [], p ++ q, [], p, [], hW, ?_, ?_, ?_, hb.frame _, fun h => by cases h⟩
    · rw [hres, hr]
      exact ChangeShapes.trodAll_mk1 ⟨1, by simp [Value.cells, DataW.trod, htb]⟩
    · rw [hargs]
      exact trodAll_below hl hb hts hA (fun x hx => hlt x (by simp [hx]))
    · rw [hvs, hvars]; rfl

end

/-- A slice that is an argument has a place of its own make. -/
theorem okWide_spot {P : Program} {w : World} {r : Reach} {base : Nat} {t e : TypeId} {v : Value} (ht : P.underlying t = some (.slice e)) (h : Value.okWide P w r base t v) : ∀ a l c, v = .slice (some a) l c → a.spot = none := by
  rintro a l c rfl
  simp only [Value.okWide, ht, Cell.okWide, Cell.ok] at h
  exact h.2.2.2.1

/-! ### the start's names -/
def inp (ls : List (Nat × Loc)) : Ren := fun n => match get ls n with
  | some l => some l
  | none => if gnm 0 ≤ n then some ⟨n - gnm 0, 0, 0, 0, false⟩ else none

def namesBelow (nxt : Nat) : List (Nat × Loc) → Bool
  | [] => true
  | (n, _) :: r => match Nat.blt n nxt with
    | true => namesBelow nxt r
    | false => false

theorem get_namesBelow {nxt : Nat} : ∀ (ls : List (Nat × Loc)), namesBelow nxt ls = true → ∀ n, nxt ≤ n → get ls n = none
  | [], _, n, _ => rfl
  | (m, l) :: r, h, n, hn => by
    simp only [namesBelow] at h
    split at h
    · rename_i hlt
      have hlt : m < nxt := by simpa [Nat.blt_eq] using hlt
      have : Nat.beq m n = false := by rw [← Bool.not_eq_true, Nat.beq_eq]; omega
      simp [get, this, get_namesBelow r h n hn]
    · cases h

theorem inp_fresh {ls : List (Nat × Loc)} {nxt hi : Nat} (h : namesBelow nxt ls = true) (hh : hi ≤ gnm 0) : Fresh (inp ls) nxt hi := by
  intro n h1 h2
  have : ¬ gnm 0 ≤ n := by omega
  simp [inp, get_namesBelow ls h n h1, this]

theorem inp_glob {ls : List (Nat × Loc)} {nxt : Nat} (h : namesBelow nxt ls = true) (hh : nxt ≤ gnm 0) : GOk (inp ls) := by
  intro g
  have hg : gnm 0 ≤ gnm g := by unfold gnm; omega
  refine ⟨⟨g, 0, 0, 0, false⟩, ?_, rfl, rfl, rfl⟩
  have : gnm g - gnm 0 = g := by unfold gnm; omega
  simp [inp, get_namesBelow ls h (gnm g) (by omega), hg, this]

theorem inp_one {n : Nat} {l : Loc} : inp [(n, l)] n = some l := by simp [inp, get]

theorem inp_of {ls : List (Nat × Loc)} {n : Nat} {l : Loc} (h : get ls n = some l) : inp ls n = some l := by simp [inp, h]

/-- No name of a list stands in a heap. -/
def noneIn (heap : List (Nat × AO)) : List Nat → Bool
  | [] => true
  | n :: r => match get heap n with
    | none => noneIn heap r
    | some _ => false

theorem noneIn_get {heap : List (Nat × AO)} : ∀ (l : List Nat), noneIn heap l = true → ∀ n ∈ l, get heap n = none
  | [], _, n, h => by cases h
  | m :: r, h, n, hn => by
    simp only [noneIn] at h
    split at h
    · rename_i hm
      rcases List.mem_cons.1 hn with rfl | hn
      · exact hm
      · exact noneIn_get r h n hn
    · cases h

def isTrue (v : AV) : Prop := v = .bool true ∨ v = .symb true

/-- A law's call, out of its evaluation. -/
theorem run_law {E : Env} (hE : EnvOk E) {fuel f : Nat} {args : List AV} {heap : List (Nat × AO)} {nxt hi : Nat} {hints : List Hint} {auto : Bool} {v : AV} {h' : Hp} {W : World} {xs : List Value} {ls : List (Nat × Loc)}
    (hcall : callF E fuel f args ⟨heap, nxt, hi, hints, [], [], auto⟩ = some (v, h')) (hv : isTrue v) (hob : Obs h') (hwr : noneIn heap h'.wr = true)
    (hrep : HeapRep E.P (inp ls) heap W) (hx : denL (inp ls) args = some xs) (hn : namesBelow nxt ls = true) (hn2 : nxt ≤ gnm 0) (hhi : hi ≤ gnm 0) :
    Calls E.P f xs.toArray W fun e W' => e = .returned (.bool true) ∧ RowKit.Below W.heap.size W W' := by
  have hC := ((all_ok hE fuel).ca f args _ v h' hcall).wp hob (inp ls) W hrep (inp_fresh hn hhi) (inp_glob hn hn2) xs hx
  refine hC.mono fun e w' ⟨x, ρ', he, hr, hst⟩ => ?_
  refine ⟨?_, hst.fr.below fun b _ ⟨m, hm, o, l, h1, _⟩ => ?_⟩
  · rw [he]
    rcases hv with rfl | rfl
    · simp [relS, den] at hr
      simp [← hr]
    · simp [relS, den] at hr
      simp [← hr]
  · rw [noneIn_get _ hwr m hm] at h1; cases h1

theorem run_law' {E : Env} (hE : EnvOk E) {fuel f : Nat} {args : List AV} {heap : List (Nat × AO)} {nxt hi : Nat} {hints : List Hint} {auto : Bool} {v : AV} {ob : List Prop} {W : World} {xs : List Value} {ls : List (Nat × Loc)}
    (hcall : (callF E fuel f args ⟨heap, nxt, hi, hints, [], [], auto⟩).map (fun x => (x.1, x.2.ob, noneIn heap x.2.wr)) = some (v, ob, true)) (hv : isTrue v) (hob : ∀ p ∈ ob, p)
    (hrep : HeapRep E.P (inp ls) heap W) (hx : denL (inp ls) args = some xs) (hn : namesBelow nxt ls = true) (hn2 : nxt ≤ gnm 0) (hhi : hi ≤ gnm 0) :
    Calls E.P f xs.toArray W fun e W' => e = .returned (.bool true) ∧ RowKit.Below W.heap.size W W' := by
  cases hc : callF E fuel f args ⟨heap, nxt, hi, hints, [], [], auto⟩ with
  | none => rw [hc] at hcall; cases hcall
  | some y =>
    obtain ⟨v', h'⟩ := y
    rw [hc] at hcall
    simp only [Option.map_some, Option.some.injEq, Prod.mk.injEq] at hcall
    obtain ⟨rfl, rfl, h3⟩ := hcall
    exact run_law hE hc hv hob h3 hrep hx hn hn2 hhi

theorem heapRep_one {P : Program} {W : World} {n : Nat} {l : Loc} {o : AO} (h : ∀ ρ, ObjRep P ρ W l o) : HeapRep P (inp [(n, l)]) [(n, o)] W := by
  refine ⟨fun m x e => ?_, fun m k x y l1 l2 h1 h2 hne => ?_⟩
  · simp only [get] at e
    split at e
    · rename_i hb; cases e
      have hb := Nat.eq_of_beq_eq_true hb
      subst hb
      exact ⟨l, inp_of (by simp [get]), h _⟩
    · cases e
  · exfalso
    simp only [get] at h1 h2
    split at h1
    · split at h2
      · rename_i a _ b
        have a := Nat.eq_of_beq_eq_true a
        have b := Nat.eq_of_beq_eq_true b
        omega
      · cases h2
    · cases h1

theorem heapRep_nil {P : Program} {ρ : Ren} {W : World} : HeapRep P ρ [] W := ⟨fun n o e => by simp [get] at e, fun n m o o' l l' e => by simp [get] at e⟩

/-! ### the whole of a law's row -/
/-- What is to be shown of a law: whatever its arguments, it answers true, and nothing that was there has changed. -/
def LawRuns (P : Program) (f : Nat) (ts : List TypeId) : Prop :=
  ∀ (H : Type) (enc : TypeId × Value → H) (W : World) (base : Nat) (args : List Value) (ds : List (DataW H)) (p : List MemPlace),
    (∀ (j : Nat) t v, ts[j]? = some t → args[j]? = some v → Value.okWide P W .any base t v) → DataW.TrodAll enc P W 0 (fun _ => true) true ts args ds p →
    Calls P f args.toArray W fun e W' => e = .returned (.bool true) ∧ RowKit.Below W.heap.size W W'

theorem law_contract {P : Program} {f : Nat} {fn : Func} {ts : List TypeId} (hp : fn.params = ts.toArray) (h : LawRuns P f ts) {H : Type} {enc : TypeId × Value → H} {s : ChangeSpec} {apart fresh handsOn : Bool} {tb : TypeId}
    (hl : laidOutB P = true) (hts : ∀ t ∈ fn.params.toList, P.readableRec t = true ∧ t < P.types.size) (hr : fn.resultTypes = #[tb]) (htb : P.underlying tb = some .bool) (hvars : s.vars = [])
    (hs : ∀ ds : List (DataW H), ds.length = ts.length → (s.fn H ds).results = [.lit (.bool true)] ∧ (s.fn H ds).args = ds ∧ (s.fn H ds).vars = [])
    (W : World) (base : Nat) (args : Array Value) (ds gs : List (DataW H)) (before : List MemPlace) (hval : ∀ (j : Nat) t v, fn.params[j]? = some t → args[j]? = some v → Value.okWide P W .any base t v)
    (hW : DataW.Whole enc P fn.params.toList s.vars apart W args.toList ds gs before) :
    Calls P f args W fun e W' => ∃ v, e = .returned v ∧ s.post enc P fn apart fresh handsOn false W args v W' := by
  have hW0 := hW
  obtain ⟨p, q, hA, hV, rfl, _, _⟩ := hW0
  rw [hvars] at hV
  cases gs with
  | cons g gs => cases hV
  | nil =>
    have hlen := (trodAll_length hA).2
    rw [hp] at hA hlen
    have := h H enc W base args.toList ds p (fun j t v h1 h2 => hval j t v (by rw [hp]; simpa using h1) (by simpa using h2)) (by simpa using hA)
    rw [Array.toArray_toList] at this
    refine this.mono fun e W' ⟨he, hb⟩ => ⟨.bool true, he, ?_⟩
    obtain ⟨h1, h2, h3⟩ := hs ds (by simpa using hlen)
    exact law_post hl hts hr htb hvars hW (by simpa using h1) (by simpa using h2) (by simpa using h3) hb

theorem u64_range {n : Int} (h : (Lit.int .u64 n).wf = true) : 0 ≤ n ∧ n < 18446744073709551616 := by
  simp [Lit.wf, IntKind.min, IntKind.max, IntKind.bits, IntKind.signed] at h
  omega
theorem u8_wrap64 {n : Int} (h : (Lit.int .u8 n).wf = true) : IntKind.i64.wrap n = n := by
  simp [Lit.wf, IntKind.min, IntKind.max, IntKind.bits, IntKind.signed] at h
  have e : n % 18446744073709551616 = n := Int.emod_eq_of_lt (by omega) (by omega)
  show (if (true && decide (n % 18446744073709551616 ≥ (9223372036854775808 : Int))) = true then n % 18446744073709551616 - 18446744073709551616 else n % 18446744073709551616) = n
  rw [e]
  have h2 : ¬ (9223372036854775808 : Int) ≤ n := by omega
  simp [h2]
/-! ### closed calls -/
def scalar : AV → Bool
  | .int .. => true
  | .bool _ => true
  | .sym .. => true
  | .symb _ => true
  | .nilp => true
  | .nils => true
  | .nilm => true
  | .nilf => true
  | .nili => true
  | .tup [] => true
  | _ => false

theorem scalar_rel {v : AV} (h : scalar v = true) {ρ ρ' : Ren} {x : Value} (r : relS ρ v x) : relS ρ' v x := by
  unfold scalar at h
  split at h <;> first | (cases h; done) | exact r.imp id (fun e => by simpa [den, denL] using e)

/-- A call without arguments, evaluated over no memory, whose answer is a plain value: it may be taken as known everywhere. -/
theorem closed_ok {E : Env} (hE : EnvOk E) {fuel f nxt : Nat} {v : AV} {h1 : Hp} (hc : callF E fuel f [] ⟨[], nxt, gnm 0, [], [], [], true⟩ = some (v, h1)) (hob : h1.ob = []) (hv : scalar v = true) (h : Hp) :
    CaOk E.P f [] h v h := by
  refine ⟨Mono.refl h, fun _ ρ w hr hf hg xs hx => ?_⟩
  simp [denL] at hx
  subst hx
  let ρ0 : Ren := fun n => if gnm 0 ≤ n then ρ n else none
  have g0 : GOk ρ0 := fun g => by
    obtain ⟨l, hl, r⟩ := hg g
    have hg0 : gnm 0 ≤ gnm g := by unfold gnm; omega
    exact ⟨l, by simp [ρ0, hg0, hl], r⟩
  have := ((all_ok hE fuel).ca f [] _ v h1 hc).wp (by intro p hp; rw [hob] at hp; cases hp) ρ0 w ⟨fun n o e => by simp [get] at e, fun n m o o' l l' e => by simp [get] at e⟩
    (fun n h1 h2 => by simp at h1 h2; simp [ρ0]; omega) g0 [] rfl
  refine this.mono fun e w' ⟨x, ρ', he, hx, hs⟩ => ⟨x, ρ, he, scalar_rel hv hx, ?_⟩
  have same : ∀ b, b < w.heap.size → w'.heap[b]? = w.heap[b]? := fun b hb => hs.fr.same b hb (fun ⟨m, hm, o, l, e, _⟩ => by simp [get] at e)
  refine ⟨Le.refl ρ, fun n l a b => (by rw [a] at b; cases b), ⟨fun n o e => ?_, hr.2⟩, ⟨hs.fr.size, fun b hb _ => same b hb, hs.fr.tape, hs.fr.os, hs.fr.output⟩, fun n o l a b c _ => ⟨n, o, l, a, rfl, b, c, rfl, .inl rfl⟩⟩
  obtain ⟨l, hl, ho⟩ := hr.1 n o e
  exact ⟨l, hl, ho.keep (Le.refl ρ) (fun hc => same _ (ho.lt hc))⟩

end Go.Ev

/-
  Contracts out of evaluations; an environment out of contracts.
-/
set_option linter.unusedSimpArgs false
set_option linter.unusedVariables false
namespace Go.Ev

/-- The heap that a local contract starts from. -/
def LR.from (R : LR) (lh : List (Nat × AO)) : Hp := ⟨lh, R.k + 1, gnm 0, [], [], [], false⟩
def LR.to (R : LR) : Hp := ⟨R.heap, R.k + 1 + R.n, gnm 0, [], [], R.wr, false⟩

theorem loc_of_run {E : Env} (hE : EnvOk E) {f : FuncId} {la : List AV} {lh : List (Nat × AO)} {R : LR}
    (H : (∀ p ∈ R.ob, p) → ∃ fuel hints v1 h1, callF E fuel f la ⟨lh, R.k + 1, gnm 0, hints, [], [], false⟩ = some (v1, h1) ∧ Obs h1 ∧ ∃ m ob, castSt (R.from lh) m ⟨[v1], h1⟩ ⟨[R.v], R.to⟩ = some ob ∧ ∀ p ∈ ob, p) : LocOk E.P f la lh R := by
  intro ρ w hob hr hf hg xs hx
  obtain ⟨fuel, hints, v1, h1, hc, ho, m, ob, hcast, hob2⟩ := H hob
  refine (((all_ok hE fuel).ca f la _ v1 h1 hc).wp ho ρ w hr hf hg xs hx).mono fun e w' ⟨x, ρ', he, hx, st⟩ => ?_
  have st' : Step E.P ρ (R.from lh) w ρ' h1 w' := st.of_eq rfl rfl rfl rfl rfl
  obtain ⟨ρ2, q1, q2, _⟩ := castSt_ok (xs := [x]) (s := ⟨[v1], h1⟩) st' hf hr hcast hob2 ⟨rfl, fun k v hk => by
    cases k with
    | zero => simp at hk; subst hk; exact ⟨x, rfl, hx⟩
    | succ k => simp at hk⟩
  refine ⟨x, ρ2, he, ?_, q2.of_eq rfl rfl rfl rfl rfl⟩
  obtain ⟨y, hy, hr⟩ := q1.2 0 R.v rfl
  simp at hy; subst hy
  exact hr

abbrev LSpec := List AV → List (Nat × AO) → Option LR

def specOf : List (FuncId × LSpec) → FuncId → Option (List AV → Hp → Option (AV × Hp))
  | [], _ => none
  | (g, s) :: r, f => match Nat.beq g f with
    | true => some (applyLoc s)
    | false => specOf r f

def SpecsOk (P : Program) : List (FuncId × LSpec) → Prop
  | [] => True
  | (g, s) :: r => (∀ la lh R, s la lh = some R → LocOk P g la lh R) ∧ SpecsOk P r

theorem specOf_ok {P : Program} : ∀ (l : List (FuncId × LSpec)), SpecsOk P l → ∀ f g, specOf l f = some g → ∀ args h v h', g args h = some (v, h') → CaOk P f args h v h'
  | [], _, f, g, e => by cases e
  | (q, s) :: r, ok, f, g, e => by
    intro args h v h' hg
    simp only [specOf] at e
    split at e
    · rename_i hq
      have hq := Nat.eq_of_beq_eq_true hq; subst hq
      cases e
      exact applyLoc_ok ok.1 hg
    · exact specOf_ok r ok.2 f g e args h v h' hg

def envOf (P : Program) (l : List (FuncId × LSpec)) : Env := ⟨P, specOf l, LoopHolds P⟩

theorem envOf_ok {P : Program} (G : Good P) {l : List (FuncId × LSpec)} (ok : SpecsOk P l) : EnvOk (envOf P l) :=
  ⟨G, fun _ _ _ _ h => h, specOf_ok l ok⟩


/-! ### evaluations that end in a cast -/
def roundB (E : Env) (fuel : Nat) (c : Code) (h0 : Hp) (m : List (Nat × Src)) (T : St) (hints : List Hint) (tgt : St) : Option (Ex × List Prop) :=
  match exec E fuel c ⟨T.tmps, ⟨T.hp.heap, T.hp.nxt, T.hp.hi, hints, [], T.hp.wr, false⟩⟩ with
  | some (e, s') => match castSt h0 m s' tgt with
    | some ob => some (e, ob ++ s'.hp.ob)
    | none => none
  | none => none

theorem roundB_spec {E : Env} {fuel : Nat} {c : Code} {h0 : Hp} {m : List (Nat × Src)} {T : St} {hints : List Hint} {tgt : St} {e : Ex} {ob : List Prop} (h : roundB E fuel c h0 m T hints tgt = some (e, ob)) (ho : ∀ p ∈ ob, p) :
    ∃ s', exec E fuel c ⟨T.tmps, ⟨T.hp.heap, T.hp.nxt, T.hp.hi, hints, [], T.hp.wr, false⟩⟩ = some (e, s') ∧ Obs s'.hp ∧ ∃ ob, castSt h0 m s' tgt = some ob ∧ ∀ p ∈ ob, p := by
  unfold roundB at h
  split at h
  · rename_i e' s' hx
    split at h
    · rename_i ob' hc
      cases h
      obtain ⟨a, b⟩ := all_append ho
      exact ⟨s', hx, b, ob', hc, a⟩
    · cases h
  · cases h

theorem round_norm {E : Env} {c : Code} {s0 : St} {e0 : Ex} {s1 : St} {I : Type} {T : I → St} {μ : I → Nat} {ok : I → Prop} {i : I} (j : I) {fuel : Nat} {m : List (Nat × Src)} {hints : List Hint} {ob : List Prop}
    (h : roundB E fuel c s0.hp m (T i) hints (T j) = some (.norm, ob)) (ho : ∀ p ∈ ob, p) (hj : ok j) (hμ : μ j < μ i) : RoundOk E c s0 e0 s1 T μ ok i := by
  obtain ⟨s', h1, h2, ob', h3, h4⟩ := roundB_spec h ho
  exact ⟨fuel, hints, .norm, s', h1, h2, .inl ⟨rfl, j, m, ob', hj, hμ, h3, h4⟩⟩

theorem round_exit {E : Env} {c : Code} {s0 : St} {e0 : Ex} {s1 : St} {I : Type} {T : I → St} {μ : I → Nat} {ok : I → Prop} {i : I} {fuel : Nat} {m : List (Nat × Src)} {hints : List Hint} {ob : List Prop}
    (h : roundB E fuel c s0.hp m (T i) hints s1 = some (e0, ob)) (hne : e0 ≠ .norm) (ho : ∀ p ∈ ob, p) : RoundOk E c s0 e0 s1 T μ ok i := by
  obtain ⟨s', h1, h2, ob', h3, h4⟩ := roundB_spec h ho
  exact ⟨fuel, hints, e0, s', h1, h2, .inr ⟨rfl, hne, m, ob', h3, h4⟩⟩

def callB (E : Env) (fuel : Nat) (f : FuncId) (la : List AV) (lh : List (Nat × AO)) (R : LR) (m : List (Nat × Src)) (hints : List Hint) : Option (List Prop) :=
  match callF E fuel f la ⟨lh, R.k + 1, gnm 0, hints, [], [], false⟩ with
  | some (v1, h1) => match castSt (R.from lh) m ⟨[v1], h1⟩ ⟨[R.v], R.to⟩ with
    | some ob => some (ob ++ h1.ob)
    | none => none
  | none => none

theorem loc_of_call {E : Env} (hE : EnvOk E) {f : FuncId} {la : List AV} {lh : List (Nat × AO)} {R : LR}
    (H : (∀ p ∈ R.ob, p) → ∃ fuel hints m ob, callB E fuel f la lh R m hints = some ob ∧ ∀ p ∈ ob, p) : LocOk E.P f la lh R := by
  refine loc_of_run hE (fun hp => ?_)
  obtain ⟨fuel, hints, m, ob, h, ho⟩ := H hp
  unfold callB at h
  split at h
  · rename_i v1 h1 hc
    split at h
    · rename_i ob' hcast
      cases h
      obtain ⟨a, b⟩ := all_append ho
      exact ⟨fuel, hints, v1, h1, hc, b, m, ob', hcast, a⟩
    · cases h
  · cases h

/-! ### a function's loops, in the order of the text -/
def loops : Code → List Code
  | .seq a b => loops a ++ loops b
  | .cond _ a b => loops a ++ loops b
  | .block _ a => loops a
  | .loop a => a :: loops a
  | .scope a => loops a
  | _ => []
def nthC : List Code → Nat → Code
  | [], _ => .skip
  | c :: _, 0 => c
  | _ :: r, n + 1 => nthC r n
def loopAt (P : Program) (f k : Nat) : Code := match P.funcs[f]? with
  | some fn => match fn.body with
    | some c => nthC (loops c) k
    | none => .skip
  | none => .skip

theorem ob_nil : ∀ p ∈ ([] : List Prop), p := fun p h => by cases h
theorem ob_cons {q : Prop} {l : List Prop} (hq : q) (hl : ∀ p ∈ l, p) : ∀ p ∈ q :: l, p := fun p h => by
  rcases List.mem_cons.1 h with rfl | h
  · exact hq
  · exact hl p h

/-- Obligations as one conjunction. -/
@[reducible] def conjL : List Prop → Prop
  | [] => True
  | p :: r => p ∧ conjL r
theorem cj : ∀ {l : List Prop}, conjL l → ∀ p ∈ l, p
  | [], _, p, h => by cases h
  | q :: r, hq, p, h => by
    rcases List.mem_cons.1 h with rfl | h
    · exact hq.1
    · exact cj hq.2 p h

/-- The first place where a row of truths ends. -/
theorem first_false (p : Nat → Bool) : ∀ n, (∀ i, i < n → p i = true) ∨ ∃ k, k < n ∧ p k = false ∧ ∀ i, i < k → p i = true
  | 0 => .inl (fun i h => by omega)
  | n + 1 => by
    rcases first_false p n with h | ⟨k, h1, h2, h3⟩
    · cases hn : p n with
      | true => exact .inl (fun i hi => by
          by_cases e : i = n
          · rw [e]; exact hn
          · exact h i (by omega))
      | false => exact .inr ⟨n, by omega, hn, h⟩
    · exact .inr ⟨k, by omega, h2, h3⟩

def allB (p : Nat → Bool) : Nat → Bool
  | 0 => true
  | n + 1 => allB p n && p n

theorem allB_iff (p : Nat → Bool) : ∀ n, allB p n = true ↔ ∀ i, i < n → p i = true
  | 0 => by simp [allB]
  | n + 1 => by
    simp only [allB, Bool.and_eq_true, allB_iff p n]
    constructor
    · rintro ⟨h1, h2⟩ i hi
      by_cases e : i = n
      · rw [e]; exact h2
      · exact h1 i (by omega)
    · intro h
      exact ⟨fun i hi => h i (by omega), h n (by omega)⟩

theorem wrap_nat64 (n : Int) (h0 : 0 ≤ n) (h1 : n < 9223372036854775808) : IntKind.i64.wrap n = n := by
  have e : n % 18446744073709551616 = n := Int.emod_eq_of_lt h0 (by omega)
  have h2 : ¬ (9223372036854775808 : Int) ≤ n := by omega
  show (if (true && decide (n % 18446744073709551616 ≥ (9223372036854775808 : Int))) = true then n % 18446744073709551616 - 18446744073709551616 else n % 18446744073709551616) = n
  rw [e]
  simp [h2]

/-- A closed call as a contract. -/
theorem lives_of_run {E : Env} (hE : EnvOk E) {fuel f : Nat} (h : (callF E fuel f [] ⟨[], 0, gnm 0, [], [], [], true⟩).map (fun x => (x.1, x.2.ob)) = some (.bool true, [])) : LocOk E.P f [] [] ⟨0, .bool true, [], 0, [], []⟩ := by
  intro ρ w hob hr hf hg xs hx
  cases hc : callF E fuel f [] ⟨[], 0, gnm 0, [], [], [], true⟩ with
  | none => rw [hc] at h; cases h
  | some y =>
    rw [hc] at h
    simp only [Option.map_some, Option.some.injEq, Prod.mk.injEq] at h
    obtain ⟨v, h1⟩ := y
    obtain ⟨rfl, h2⟩ := h
    exact (closed_ok hE hc h2 rfl ⟨[], 1, gnm 0, [], [], [], false⟩).wp (fun p hp => by cases hp) ρ w hr hf hg xs hx
theorem lives_of_run_s {E : Env} (hE : EnvOk E) {fuel f : Nat} (h : (callF E fuel f [] ⟨[], 0, gnm 0, [], [], [], true⟩).map (fun x => (x.1, x.2.ob)) = some (.symb true, [])) : LocOk E.P f [] [] ⟨0, .bool true, [], 0, [], []⟩ := by
  intro ρ w hob hr hf hg xs hx
  cases hc : callF E fuel f [] ⟨[], 0, gnm 0, [], [], [], true⟩ with
  | none => rw [hc] at h; cases h
  | some y =>
    rw [hc] at h
    simp only [Option.map_some, Option.some.injEq, Prod.mk.injEq] at h
    obtain ⟨v, h1⟩ := y
    obtain ⟨rfl, h2⟩ := h
    refine ((closed_ok hE hc h2 rfl ⟨[], 1, gnm 0, [], [], [], false⟩).wp (fun p hp => by cases hp) ρ w hr hf hg xs hx).mono fun e w' ⟨x, ρ', he, r, hs⟩ => ⟨x, ρ', he, ?_, hs⟩
    exact r.imp (fun h => by cases h) (fun e => by simpa [den] using e)
/-- A map's answer. -/
def mget (M : List Int → Option Int) (k : List Int) : Int := match M k with
  | some n => n
  | none => 0

theorem ob_app {a b : List Prop} (ha : ∀ p ∈ a, p) (hb : ∀ p ∈ b, p) : ∀ p ∈ a ++ b, p := fun p h => (List.mem_append.1 h).elim (ha p) (hb p)

end Go.Ev

/-
  Contracts that ask no more of closed values than of symbolic ones.
-/
set_option linter.unusedSimpArgs false
set_option linter.unusedVariables false
namespace Go.Ev

mutual
def nrmV : AV → AV
  | .int k n => .sym k n
  | .bool b => .symb b
  | .xs wd b o l c => .ss wd b o l c
  | .agg l => .agg (nrmL l)
  | .tup l => .tup (nrmL l)
  | v => v
def nrmL : List AV → List AV
  | [] => []
  | v :: r => nrmV v :: nrmL r
end

mutual
theorem nrmV_den {ρ : Ren} : ∀ (v : AV) (x : Value), den ρ v = some x → den ρ (nrmV v) = some x
  | .top, x, e => e
  | .int .., x, e => e
  | .sym .., x, e => e
  | .bool .., x, e => e
  | .symb .., x, e => e
  | .nilp, x, e => e
  | .ptr .., x, e => e
  | .nils, x, e => e
  | .xs wd b off len c, x, e => by
    simp only [nrmV, den] at e ⊢
    cases hb : ρ b with
    | none => simp [hb] at e
    | some l =>
      rw [hb] at e
      cases hn : l.isnil with
      | true => simp [hn] at e
      | false => simpa [hn] using e
  | .ss .., x, e => e
  | .nilm, x, e => e
  | .map .., x, e => e
  | .nilf, x, e => e
  | .func .., x, e => e
  | .nili, x, e => e
  | .iface .., x, e => e
  | .agg l, x, e => by
    simp only [nrmV, den] at e ⊢
    cases hl : denL ρ l with
    | none => simp [hl] at e
    | some xs => rw [hl] at e; rw [nrmL_den l xs hl]; exact e
  | .tup l, x, e => by
    simp only [nrmV, den] at e ⊢
    cases hl : denL ρ l with
    | none => simp [hl] at e
    | some xs => rw [hl] at e; rw [nrmL_den l xs hl]; exact e
  | .stamp .., x, e => e
  | .raw .., x, e => e
theorem nrmL_den {ρ : Ren} : ∀ (l : List AV) (xs : List Value), denL ρ l = some xs → denL ρ (nrmL l) = some xs
  | [], xs, e => e
  | v :: r, xs, e => by
    simp only [nrmL, denL] at e ⊢
    cases hv : den ρ v with
    | none => simp [hv] at e
    | some y => cases hr : denL ρ r with
      | none => simp [hv, hr] at e
      | some ys => rw [hv, hr] at e; rw [nrmV_den v y hv, nrmL_den r ys hr]; exact e
end

def nrmO : AO → AO
  | .cells wd l => .cells wd (nrmL l)
  | o => o

theorem nrmO_ro (o : AO) : (nrmO o).ro = o.ro := by cases o <;> rfl

theorem nrmL_get : ∀ (l : List AV) (j : Nat) v, (nrmL l)[j]? = some v → ∃ u, l[j]? = some u ∧ v = nrmV u
  | [], j, v, h => by simp [nrmL] at h
  | a :: r, 0, v, h => by simp [nrmL] at h; exact ⟨a, by simp, h.symm⟩
  | a :: r, j + 1, v, h => by simp [nrmL] at h; obtain ⟨u, hu, e⟩ := nrmL_get r j v h; exact ⟨u, by simpa using hu, e⟩
theorem nrmL_length : ∀ l : List AV, (nrmL l).length = l.length
  | [] => rfl
  | a :: r => by simp [nrmL, nrmL_length r]

theorem nrmO_rep {P : Program} {ρ : Ren} {w : World} {l : Loc} {o : AO} (h : ObjRep P ρ w l o) : ObjRep P ρ w l (nrmO o) := by
  cases o with
  | cells wd cs =>
    obtain ⟨h0, h1, h2, c, t, fr, hb, hf, hc, hc2, hv⟩ := h
    refine ⟨h0, h1, h2, c, t, fr, hb, hf, by rw [nrmL_length]; exact hc, hc2, fun j v hj => ?_⟩
    obtain ⟨u, hu, rfl⟩ := nrmL_get cs j v hj
    obtain ⟨x, hx, hr⟩ := hv j u hu
    refine ⟨x, hx, ?_⟩
    rcases hr with hr | hr
    · subst hr; exact .inl rfl
    · exact .inr (nrmV_den u x hr)
  | arr wd sh ro len f => exact h
  | map t f => exact h
  | mapP t f n k => exact h

def nrmH : List (Nat × AO) → List (Nat × AO)
  | [] => []
  | (n, o) :: r => (n, nrmO o) :: nrmH r

theorem nrmH_get : ∀ (h : List (Nat × AO)) (n : Nat) o, get (nrmH h) n = some o → ∃ o1, get h n = some o1 ∧ o = nrmO o1
  | [], n, o, e => by simp [nrmH, get] at e
  | (m, x) :: r, n, o, e => by
    simp only [nrmH, get] at e ⊢
    split at e
    · cases e; exact ⟨x, rfl, rfl⟩
    · exact nrmH_get r n o e
theorem nrmH_get' : ∀ (h : List (Nat × AO)) (n : Nat) o, get h n = some o → get (nrmH h) n = some (nrmO o)
  | [], n, o, e => by simp [get] at e
  | (m, x) :: r, n, o, e => by
    simp only [nrmH, get] at e ⊢
    split at e
    · cases e; rfl
    · exact nrmH_get' r n o e

theorem loc_nrm {P : Program} {f : FuncId} {la : List AV} {lh : List (Nat × AO)} {R : LR} (h : LocOk P f (nrmL la) (nrmH lh) R) : LocOk P f la lh R := by
  intro ρ w hob hr hf hg xs hx
  have hr' : HeapRep P ρ (nrmH lh) w := by
    refine ⟨fun n o e => ?_, fun n m o o' l l' e e' hne hro => ?_⟩
    · obtain ⟨o1, h1, rfl⟩ := nrmH_get _ _ _ e
      obtain ⟨l, hl, ho⟩ := hr.1 n o1 h1
      exact ⟨l, hl, nrmO_rep ho⟩
    · obtain ⟨o1, h1, rfl⟩ := nrmH_get _ _ _ e
      obtain ⟨o2, h2, rfl⟩ := nrmH_get _ _ _ e'
      rw [nrmO_ro, nrmO_ro] at hro
      exact hr.2 n m o1 o2 l l' h1 h2 hne hro
  refine (h ρ w hob hr' hf hg xs (nrmL_den _ _ hx)).mono fun e w' ⟨x, ρ', he, hv, st⟩ => ⟨x, ρ', he, hv, ?_⟩
  refine ⟨st.le, st.new, st.rep, st.fr.mono ?_, fun n o l h1 h2 h3 h4 => ?_⟩
  · rintro b ⟨m, hm, o, l, e1, e2, e3⟩
    obtain ⟨o1, h1, rfl⟩ := nrmH_get _ _ _ e1
    rw [nrmO_ro] at e2
    exact ⟨m, hm, o1, l, h1, e2, e3⟩
  · obtain ⟨m, o', l', e1, e2, e3⟩ := st.own n o l h1 h2 h3 h4
    obtain ⟨o1, g1, rfl⟩ := nrmH_get _ _ _ e1
    rw [nrmO_ro] at e2
    exact ⟨m, o1, l', g1, e2, e3⟩

/-- A contract over normal forms, for all. -/
def nrm (s : LSpec) : LSpec := fun la lh => s (nrmL la) (nrmH lh)

theorem nrm_ok {P : Program} {f : FuncId} {s : LSpec} (h : ∀ la lh R, s la lh = some R → LocOk P f la lh R) : ∀ la lh R, nrm s la lh = some R → LocOk P f la lh R :=
  fun la lh R e => loc_nrm (h _ _ R e)

end Go.Ev

/-
  Package-level tables: what a listed variable's block holds, and a law's row over such a start.
-/
set_option linter.unusedSimpArgs false
set_option linter.unusedVariables false
namespace Go.Ev

/-! ### a flat datum's cells -/
mutual
def litsOf {H : Type} : DataW H → List Value
  | .lit (.int k n) => [.int k n]
  | .lit (.bool b) => [.bool b]
  | .agg l => litsOfL l
  | _ => []
def litsOfL {H : Type} : List (DataW H) → List Value
  | [] => []
  | d :: r => litsOf d ++ litsOfL r
end

def LeafOk (P : Program) (l : List TypeId) : Prop := ∀ u ∈ l, P.underlying u = some .bool ∨ ∃ k, P.underlying u = some (.int k)

section
variable {H : Type} {enc : TypeId × Value → H} {P : Program} {w : World} {base : Nat} {spare : Nat → Bool} {held : Bool}

theorem lits_fs {rec : TypeId → Option (List TypeId)} {cs : List Value} : ∀ (fs : List Field) (ds : List (DataW H)) (off : Nat) (l : List TypeId), leavesFs P rec off fs = some l → cs.length = off + l.length → ds.length = fs.length →
    (∀ (i : Nat) f, fs[i]? = some f → ∃ d, ds[i]? = some d ∧ (∀ l1, rec f.type = some l1 → (∀ u ∈ l1, u ∈ l) → (cs.drop f.offset).take (P.cellsOf f.type) = litsOf d)) → cs.drop off = litsOfL ds
  | [], ds, off, l, h, hc, hd, _ => by
    simp [leavesFs] at h; subst h
    have : ds = [] := by simpa using hd
    subst this
    simp at hc
    simp [litsOfL, List.drop_eq_nil_iff, hc]
  | f :: r, [], off, l, h, hc, hd, _ => by simp at hd
  | f :: r, d :: dr, off, l, h, hc, hd, hp => by
    simp only [leavesFs] at h
    split at h
    · rename_i l1 hoff hl1
      have hoff := Nat.eq_of_beq_eq_true hoff
      split at h
      · rename_i m hcl hm
        have hcl := Nat.eq_of_beq_eq_true hcl
        cases h
        obtain ⟨d', hd', hp0⟩ := hp 0 f rfl
        simp at hd'; subst hd'
        have h0 := hp0 l1 hl1 (fun u hu => by simp [hu])
        rw [hoff, hcl] at h0
        have ih := lits_fs (rec := rec) (cs := cs) r dr (off + l1.length) m hm (by simp at hc; omega) (by simpa using hd) (fun i g hi => by
          obtain ⟨d2, hd2, hp2⟩ := hp (i + 1) g (by simpa using hi)
          exact ⟨d2, by simpa using hd2, fun l2 hl2 hs => hp2 l2 hl2 (fun u hu => by simp [hs u hu])⟩)
        simp only [litsOfL]
        rw [← h0, ← ih, ← List.drop_drop, List.take_append_drop]
      · cases h
    · cases h

theorem lits_arr {cs : List Value} {sz : Nat} : ∀ (n : Nat) (ds : List (DataW H)) (off : Nat), cs.length = off + n * sz → ds.length = n →
    (∀ i, i < n → ∃ d, ds[i]? = some d ∧ (cs.drop (off + i * sz)).take sz = litsOf d) → cs.drop off = litsOfL ds
  | 0, ds, off, hc, hd, _ => by
    have : ds = [] := by simpa using hd
    subst this
    simp at hc
    simp [litsOfL, List.drop_eq_nil_iff, hc]
  | n + 1, [], off, hc, hd, _ => by simp at hd
  | n + 1, d :: dr, off, hc, hd, hp => by
    obtain ⟨d', hd', h0⟩ := hp 0 (by omega)
    simp at hd'; subst hd'
    have ih := lits_arr (cs := cs) (sz := sz) n dr (off + sz) (by rw [Nat.add_mul] at hc; omega) (by simpa using hd) (fun i hi => by
      obtain ⟨d2, hd2, hp2⟩ := hp (i + 1) (by omega)
      refine ⟨d2, by simpa using hd2, ?_⟩
      rw [← hp2]
      congr 2
      rw [Nat.add_mul]; omega)
    simp at h0
    simp only [litsOfL]
    rw [← h0, ← ih, ← List.drop_drop, List.take_append_drop]

theorem trod_lits : ∀ (n : Nat) (t : TypeId) (l : List TypeId), leaves P n t = some l → LeafOk P l → ∀ fuel cs x, DataW.trod enc P w base spare held fuel t cs = some x → cs = litsOf x.1
  | 0, t, l, h, _, _, _, _, _ => by simp [leaves] at h
  | n + 1, t, l, h, ho, fuel, cs, x, hx => by
    simp only [leaves] at h
    split at h
    · rename_i fs hfs
      split at h
      · rename_i l' hl'
        split at h
        · rename_i hc
          have hc := Nat.eq_of_beq_eq_true hc
          cases h
          obtain ⟨xs, m, rfl, rfl, hlen, hsz, hf⟩ := DataW.trod_struct hfs hx
          have := lits_fs (cs := cs) fs.toList (xs.map (·.1)) 0 _ hl' (by omega) (by simp; omega) (fun i f hi => by
            have hi' : fs[i]? = some f := by simpa using hi
            have hlt : i < fs.size := (Array.getElem?_eq_some_iff.1 hi').1
            rw [← hsz] at hlt
            refine ⟨xs[i].1, by simp [hlt], fun l1 hl1 hs => ?_⟩
            exact trod_lits n f.type l1 hl1 (fun u hu => ho u (hs u hu)) m _ xs[i] (by rw [hf i f hi']; simp [hlt]))
          simpa [litsOf] using this
        · cases h
      · cases h
    · rename_i hu
      cases h
      obtain ⟨b, rfl, hb⟩ := DataW.trod_bool hu hx
      rw [hb]; rfl
    · rename_i hu
      cases h
      obtain ⟨b, rfl, hb, _⟩ := DataW.trod_int hu hx
      rw [hb]; rfl
    · rename_i e hu
      cases h
      rcases ho t (by simp) with h | ⟨k, h⟩ <;> (rw [hu] at h; cases h)
    · rename_i c e he
      split at h
      · rename_i l' hl'
        split at h
        · rename_i hc1 hc2
          have hc1 := Nat.eq_of_beq_eq_true hc1
          have hc2 := Nat.eq_of_beq_eq_true hc2
          cases h
          obtain ⟨xs, m, rfl, rfl, hlen, hsz, hf⟩ := arr_trod he hx
          have := lits_arr (cs := cs) (sz := l'.length) c (xs.map (·.1)) 0 (by omega) (by simp; omega) (fun i hi => by
            have hlt : i < xs.length := by omega
            refine ⟨xs[i].1, by simp [hlt], ?_⟩
            have h1 := hf i hi
            rw [List.getElem?_eq_getElem hlt] at h1
            have ho' : LeafOk P l' := fun u hu => by
              cases c with
              | zero => omega
              | succ c => exact ho u (by simp [repL, hu])
            have := trod_lits n e l' hl' ho' m _ _ h1
            rw [hc1] at this
            simpa using this)
          simpa [litsOf] using this
        · cases h
      · cases h
    · cases h
end

/-! ### the listed variables -/
def TabsOk (P : Program) : List (String × DataW Unit) → List (Nat × List Value) → Prop
  | [], [] => True
  | (n, d) :: r, (g, vs) :: s => P.globalNamed n = some g ∧ (∃ t l, (P.globals[g]?).map (·.type) = some t ∧ leaves P 8 t = some l ∧ LeafOk P l ∧ litsOf d = vs) ∧ TabsOk P r s
  | _, _ => False

def leafB (P : Program) : List TypeId → Bool
  | [] => true
  | u :: r => match P.underlying u with
    | some .bool => leafB P r
    | some (.int _) => leafB P r
    | _ => false
theorem leafB_ok {P : Program} : ∀ (l : List TypeId), leafB P l = true → LeafOk P l
  | [], _, u, h => by cases h
  | t :: r, h, u, hu => by
    simp only [leafB] at h
    split at h
    · rename_i e
      rcases List.mem_cons.1 hu with rfl | hu
      · exact .inl e
      · exact leafB_ok r h u hu
    · rename_i k e
      rcases List.mem_cons.1 hu with rfl | hu
      · exact .inr ⟨k, e⟩
      · exact leafB_ok r h u hu
    · cases h
def valEq : Value → Value → Bool
  | .int k n, .int k' n' => decide (k = k') && decide (n = n')
  | .bool b, .bool b' => b == b'
  | _, _ => false
def valsEq : List Value → List Value → Bool
  | [], [] => true
  | v :: r, w :: s => valEq v w && valsEq r s
  | _, _ => false
theorem valsEq_ok : ∀ (a b : List Value), valsEq a b = true → a = b
  | [], [], _ => rfl
  | [], _ :: _, h => by simp [valsEq] at h
  | _ :: _, [], h => by simp [valsEq] at h
  | v :: r, w :: s, h => by
    simp only [valsEq, Bool.and_eq_true] at h
    rw [valsEq_ok r s h.2]
    have h1 := h.1
    unfold valEq at h1
    split at h1
    · simp only [Bool.and_eq_true, decide_eq_true_eq] at h1
      rw [h1.1, h1.2]
    · simp only [beq_iff_eq] at h1
      rw [h1]
    · cases h1
def tabsOkB (P : Program) : List (String × DataW Unit) → List (Nat × List Value) → Bool
  | [], [] => true
  | (n, d) :: r, (g, vs) :: s => match decide (P.globalNamed n = some g), (P.globals[g]?).map (·.type) with
    | true, some t => match leaves P 8 t with
      | some l => leafB P l && valsEq (litsOf d) vs && tabsOkB P r s
      | none => false
    | _, _ => false
  | _, _ => false
theorem tabsOkB_ok {P : Program} : ∀ {laid : List (String × DataW Unit)} {tabs : List (Nat × List Value)}, tabsOkB P laid tabs = true → TabsOk P laid tabs
  | [], [], _ => trivial
  | [], _ :: _, h => by simp [tabsOkB] at h
  | _ :: _, [], h => by simp [tabsOkB] at h
  | (n, d) :: r, (g, vs) :: s, h => by
    simp only [tabsOkB] at h
    split at h
    · rename_i t h1 h2
      split at h
      · rename_i l hl
        simp only [Bool.and_eq_true] at h
        exact ⟨of_decide_eq_true h1, ⟨t, l, h2, hl, leafB_ok l h.1.1, valsEq_ok _ _ h.1.2⟩, tabsOkB_ok h.2⟩
      · cases h
    · cases h

theorem tabs_of {P : Program} {W : World} (full : List MemPlace) (hf : ∀ b off, MemPlace.cell b off ∈ full → ∃ c t, W.heap[b]? = some (.cells c t (0, 0))) :
    ∀ (laid : List (String × DataW Unit)) (tabs : List (Nat × List Value)) (ps : List MemPlace), TabsOk P laid tabs → DataW.LaidVars P W laid ps → (∀ x ∈ ps, x ∈ full) →
      ∀ g vs, (g, vs) ∈ tabs → vs ≠ [] → ∃ t, W.heap[g]? = some (.cells vs.toArray t (0, 0))
  | [], [], ps, _, _, _, g, vs, hm, _ => by cases hm
  | [], _ :: _, ps, h, _, _, _, _, _, _ => h.elim
  | _ :: _, [], ps, h, _, _, _, _, hm, _ => by cases hm
  | (n, d) :: r, (g0, v0) :: s, ps, ht, hl, hs, g, vs, hm, hne => by
    obtain ⟨hg, ⟨t, l, h1, h2, h3, h4⟩, hr⟩ := ht
    obtain ⟨g1, t1, cs, fuel, p, q, e1, e2, e3, e4, e5, rfl⟩ := hl
    rcases List.mem_cons.1 hm with e | hm
    · cases e
      obtain rfl := Option.some.inj (hg.symm.trans e1)
      obtain rfl := Option.some.inj (h1.symm.trans e2)
      have hcs := trod_lits 8 t l h2 h3 fuel _ _ e4
      simp only at hcs
      rw [h4] at hcs
      simp only [World.var?, e1, Option.bind_some] at e3
      split at e3
      · rename_i c tt fr hW
        cases e3
        have hlen : 0 < cs.size := by
          have : cs.toList ≠ [] := by rw [hcs]; exact hne
          rcases Nat.eq_zero_or_pos cs.size with h | h
          · exact (this (by simpa using h)).elim
          · exact h
        obtain ⟨c2, t2, h0⟩ := hf g0 0 (hs _ (by
          simp only [List.mem_append]
          refine .inl (.inl ?_)
          simp only [MemPlace.row, List.mem_map, List.mem_range]
          exact ⟨0, hlen, by simp⟩))
        rw [hW] at h0
        cases h0
        exact ⟨tt, by rw [hW, ← hcs]⟩
      · cases e3
    · exact tabs_of full hf r s q hr e5 (fun x hx => hs x (by simp [hx])) g vs hm hne

theorem tabs_laid {P : Program} {W : World} {laid : List (String × DataW Unit)} {tabs : List (Nat × List Value)} (hp : (laid.all fun x => x.2.handleName?.isNone) = true) (ht : TabsOk P laid tabs) (h : laidMetH P laid W) :
    ∀ g vs, (g, vs) ∈ tabs → vs ≠ [] → ∃ t, W.heap[g]? = some (.cells vs.toArray t (0, 0)) := by
  rw [MakeChecks.laidMetH_plain _ _ _ hp] at h
  obtain ⟨ps, hl, _, hc⟩ := h
  exact tabs_of ps (fun b off hb => (hc b off hb).1) laid tabs ps ht hl (fun x hx => hx)

/-! ### a table as an object that is only read -/
def kindOfV : Value → CK
  | .int k _ => .int k
  | .bool _ => .bool
  | _ => .val
def tabF (vs : List Value) : Nat → Nat → AV := fun _ j => match nth vs j with
  | some v => ofVal v
  | none => .top
def tabAO (vs : List Value) : AO := .arr vs.length (vs.map kindOfV) true 1 (tabF vs)
def plainB : List Value → Bool
  | [] => true
  | .int _ _ :: r => plainB r
  | .bool _ :: r => plainB r
  | _ => false

theorem nth_get {α : Type} : ∀ (l : List α) (j : Nat), nth l j = l[j]?
  | [], j => by simp [nth]
  | x :: r, 0 => rfl
  | x :: r, j + 1 => by simp [nth, nth_get r j]

theorem plainB_get : ∀ (vs : List Value), plainB vs = true → ∀ (j : Nat) v, vs[j]? = some v → (∃ k n, v = .int k n) ∨ ∃ b, v = .bool b
  | [], _, j, v, e => by simp at e
  | x :: r, h, j, v, e => by
    unfold plainB at h
    split at h
    · rename_i e0; cases e0
    · rename_i e0; cases e0
      cases j with
      | zero => simp at e; subst e; exact .inl ⟨_, _, rfl⟩
      | succ j => exact plainB_get _ h j v (by simpa using e)
    · rename_i e0; cases e0
      cases j with
      | zero => simp at e; subst e; exact .inr ⟨_, rfl⟩
      | succ j => exact plainB_get _ h j v (by simpa using e)
    · cases h

theorem tab_rep {P : Program} {ρ : Ren} {W : World} {g : Nat} {vs : List Value} {t : TypeId} (hp : plainB vs = true) (h : W.heap[g]? = some (.cells vs.toArray t (0, 0))) {F : Nat → Nat → AV} (hF : ∀ j, j < vs.length → F 0 j = tabF vs 0 j) :
    ObjRep P ρ W ⟨g, 0, vs.length, 1, false⟩ (.arr vs.length (vs.map kindOfV) true 1 F) := by
  refine ⟨rfl, by simp, Nat.le_refl _, (fun e => (by cases e)), fun _ => ⟨vs.toArray, t, (0, 0), h, (fun e => (by cases e)), by simp, fun i hi j k hj => ?_⟩⟩
  obtain rfl : i = 0 := by omega
  have hlt : j < vs.length := by
    have := (List.getElem?_eq_some_iff.1 hj).1
    simpa using this
  have hv : vs[j]? = some vs[j] := List.getElem?_eq_getElem hlt
  simp only [List.getElem?_map, hv, Option.map_some, Option.some.injEq] at hj
  subst hj
  rw [hF j hlt]
  have e : tabF vs 0 j = ofVal vs[j] := by simp [tabF, nth_get, hv]
  rw [e]
  have hx : vs.toArray[(⟨g, 0, vs.length, 1, false⟩ : Loc).base + 0 * vs.length + j]? = some vs[j] := by simp [hlt]
  rcases plainB_get vs hp j _ hv with ⟨k, n, hk⟩ | ⟨b, hk⟩
  · rw [hk] at hx ⊢
    exact ⟨⟨n, .inl rfl⟩, _, hx, rfl⟩
  · rw [hk] at hx ⊢
    exact ⟨⟨b, .inl rfl⟩, _, hx, rfl⟩

/-! ### a start with tables -/
def widT (tabs : List (Nat × List Value)) (g : Nat) : Nat := match get tabs g with
  | some vs => vs.length
  | none => 0
def inpT (ls : List (Nat × Loc)) (tabs : List (Nat × List Value)) : Ren := fun n => match get ls n with
  | some l => some l
  | none => if gnm 0 ≤ n then some ⟨n - gnm 0, 0, widT tabs (n - gnm 0), 1, false⟩ else none
def tabsH : List (Nat × List Value) → List (Nat × AO)
  | [] => []
  | (g, vs) :: r => (gnm g, tabAO vs) :: tabsH r

theorem inpT_fresh {ls : List (Nat × Loc)} {tabs : List (Nat × List Value)} {nxt hi : Nat} (h : namesBelow nxt ls = true) (hh : hi ≤ gnm 0) : Fresh (inpT ls tabs) nxt hi := by
  intro n h1 h2
  have : ¬ gnm 0 ≤ n := by omega
  simp [inpT, get_namesBelow ls h n h1, this]
theorem gnm_sub (g : Nat) : gnm g - gnm 0 = g := by unfold gnm; omega
theorem inpT_gnm {ls : List (Nat × Loc)} {tabs : List (Nat × List Value)} {nxt : Nat} (h : namesBelow nxt ls = true) (hh : nxt ≤ gnm 0) (g : Nat) : inpT ls tabs (gnm g) = some ⟨g, 0, widT tabs g, 1, false⟩ := by
  have hg : gnm 0 ≤ gnm g := by unfold gnm; omega
  simp [inpT, get_namesBelow ls h (gnm g) (by omega), hg, gnm_sub]
theorem inpT_glob {ls : List (Nat × Loc)} {tabs : List (Nat × List Value)} {nxt : Nat} (h : namesBelow nxt ls = true) (hh : nxt ≤ gnm 0) : GOk (inpT ls tabs) :=
  fun g => ⟨_, inpT_gnm h hh g, rfl, rfl, rfl⟩
theorem inpT_of {ls : List (Nat × Loc)} {tabs : List (Nat × List Value)} {n : Nat} {l : Loc} (h : get ls n = some l) : inpT ls tabs n = some l := by simp [inpT, h]

theorem tabsH_get : ∀ (tabs : List (Nat × List Value)) (n : Nat) (o : AO), get (tabsH tabs) n = some o → ∃ g vs, n = gnm g ∧ get tabs g = some vs ∧ o = tabAO vs ∧ (g, vs) ∈ tabs
  | [], n, o, h => by simp [tabsH, get] at h
  | (g, vs) :: r, n, o, h => by
    simp only [tabsH, get] at h
    split at h
    · rename_i hb; cases h
      have hb := Nat.eq_of_beq_eq_true hb
      exact ⟨g, vs, hb.symm, by simp [get], rfl, by simp⟩
    · rename_i hb
      obtain ⟨g', vs', rfl, h2, h3, h4⟩ := tabsH_get r n o h
      refine ⟨g', vs', rfl, ?_, h3, by simp [h4]⟩
      simp only [get]
      split
      · rename_i hb'
        have hb' := Nat.eq_of_beq_eq_true hb'
        subst hb'
        simp at hb
      · exact h2

theorem get_app {α : Type} : ∀ (a b : List (Nat × α)) (n : Nat), get (a ++ b) n = (match get a n with | some x => some x | none => get b n)
  | [], b, n => by simp [get]
  | (m, x) :: r, b, n => by
    simp only [List.cons_append, get]
    split
    · rfl
    · exact get_app r b n

def plainTabs : List (Nat × List Value) → Bool
  | [] => true
  | (_, vs) :: r => match plainB vs with
    | true => match vs with
      | [] => false
      | _ => plainTabs r
    | false => false
theorem plainTabs_mem : ∀ (tabs : List (Nat × List Value)), plainTabs tabs = true → ∀ g vs, (g, vs) ∈ tabs → plainB vs = true ∧ vs ≠ []
  | [], _, g, vs, h => by cases h
  | (g0, v0) :: r, h, g, vs, hm => by
    simp only [plainTabs] at h
    split at h
    · rename_i hp
      split at h
      · cases h
      · rename_i hne
        rcases List.mem_cons.1 hm with e | hm
        · cases e; exact ⟨hp, fun e => hne (by simp [e])⟩
        · exact plainTabs_mem r h g vs hm
    · cases h

/-- Tables and rows, all only read. -/
theorem heapRepT {P : Program} {W : World} {ls : List (Nat × Loc)} {tabs : List (Nat × List Value)} {heap : List (Nat × AO)} {nxt : Nat} (hn : namesBelow nxt ls = true) (hh : nxt ≤ gnm 0)
    (ht : plainTabs tabs = true) (hW : ∀ g vs, (g, vs) ∈ tabs → vs ≠ [] → ∃ t, W.heap[g]? = some (.cells vs.toArray t (0, 0)))
    (hr : ∀ n o, get heap n = some o → o.ro = true ∧ ∃ l, get ls n = some l ∧ ObjRep P (inpT ls tabs) W l o) : HeapRep P (inpT ls tabs) (tabsH tabs ++ heap) W := by
  have both : ∀ n o, get (tabsH tabs ++ heap) n = some o → o.ro = true ∧ ∃ l, inpT ls tabs n = some l ∧ ObjRep P (inpT ls tabs) W l o := by
    intro n o e
    rw [get_app] at e
    split at e
    · rename_i x hx
      cases e
      obtain ⟨g, vs, rfl, h2, rfl, h4⟩ := tabsH_get tabs n _ hx
      obtain ⟨q1, q2⟩ := plainTabs_mem tabs ht g vs h4
      obtain ⟨t, hg⟩ := hW g vs h4 q2
      refine ⟨rfl, _, inpT_gnm hn hh g, ?_⟩
      have : widT tabs g = vs.length := by simp [widT, h2]
      rw [this]
      exact tab_rep q1 hg (fun j hj => rfl)
    · obtain ⟨h1, l, h2, h3⟩ := hr n o e
      exact ⟨h1, l, inpT_of h2, h3⟩
  refine ⟨fun n o e => (both n o e).2, fun n m o o' l l' h1 h2 _ hro => ?_⟩
  rw [(both n o h1).1, (both m o' h2).1] at hro
  cases hro

theorem run_lawG {E : Env} (hE : EnvOk E) {fuel f : Nat} {args : List AV} {heap : List (Nat × AO)} {nxt hi : Nat} {hints : List Hint} {auto : Bool} {v : AV} {ob : List Prop} {W : World} {xs : List Value} {ρ : Ren}
    (hcall : (callF E fuel f args ⟨heap, nxt, hi, hints, [], [], auto⟩).map (fun x => (x.1, x.2.ob, noneIn heap x.2.wr)) = some (v, ob, true)) (hv : isTrue v) (hob : ∀ p ∈ ob, p)
    (hrep : HeapRep E.P ρ heap W) (hx : denL ρ args = some xs) (hf : Fresh ρ nxt hi) (hg : GOk ρ) :
    Calls E.P f xs.toArray W fun e W' => e = .returned (.bool true) ∧ RowKit.Below W.heap.size W W' := by
  cases hc : callF E fuel f args ⟨heap, nxt, hi, hints, [], [], auto⟩ with
  | none => rw [hc] at hcall; cases hcall
  | some y =>
    obtain ⟨v', h'⟩ := y
    rw [hc] at hcall
    simp only [Option.map_some, Option.some.injEq, Prod.mk.injEq] at hcall
    obtain ⟨rfl, rfl, hwr⟩ := hcall
    have hC := ((all_ok hE fuel).ca f args _ v' h' hc).wp hob ρ W hrep hf hg xs hx
    refine hC.mono fun e w' ⟨x, ρ', he, hr, hst⟩ => ?_
    refine ⟨?_, hst.fr.below fun b _ ⟨m, hm, o, l, h1, _⟩ => ?_⟩
    · rw [he]
      rcases hv with rfl | rfl
      · simp [relS, den] at hr
        simp [← hr]
      · simp [relS, den] at hr
        simp [← hr]
    · rw [noneIn_get _ hwr m hm] at h1; cases h1

/-! ### a closed call that reads a table -/
def tabObs (vs : List Value) (F : Nat → Nat → AV) : Nat → List Prop
  | 0 => []
  | j + 1 => (F 0 j = tabF vs 0 j) :: tabObs vs F j
theorem tabObs_get {vs : List Value} {F : Nat → Nat → AV} : ∀ (n : Nat), (∀ p ∈ tabObs vs F n, p) → ∀ j, j < n → F 0 j = tabF vs 0 j
  | 0, _, j, h => by omega
  | n + 1, H, j, h => by
    by_cases e : j = n
    · subst e; exact H _ (List.mem_cons_self ..)
    · exact tabObs_get n (fun p hp => H p (List.mem_cons_of_mem _ hp)) j (by omega)
noncomputable def tabR (g : Nat) (vs : List Value) (F : Nat → Nat → AV) : LR := ⟨0, .bool true, [(gnm g, .arr vs.length (vs.map kindOfV) true 1 F)], 0, [], tabObs vs F vs.length⟩
theorem lives_of_tab {E : Env} (hE : EnvOk E) {fuel f g : Nat} {vs : List Value} {v0 : AV} (hp : plainB vs = true) (hv0 : isTrue v0)
    (h : (callF E fuel f [] ⟨[(gnm g, tabAO vs)], 0, gnm 0, [], [], [], true⟩).map (fun x => (x.1, x.2.ob)) = some (v0, [])) (F : Nat → Nat → AV) :
    LocOk E.P f [] [(gnm g, .arr vs.length (vs.map kindOfV) true 1 F)] (tabR g vs F) := by
  intro ρ w hob hr hf hg xs hx
  simp [denL] at hx
  subst hx
  have hF := tabObs_get _ hob
  cases hc : callF E fuel f [] ⟨[(gnm g, tabAO vs)], 0, gnm 0, [], [], [], true⟩ with
  | none => rw [hc] at h; cases h
  | some y =>
    rw [hc] at h
    simp only [Option.map_some, Option.some.injEq, Prod.mk.injEq] at h
    obtain ⟨v, h1⟩ := y
    obtain ⟨rfl, h2⟩ := h
    let ρ0 : Ren := fun n => if gnm 0 ≤ n then ρ n else none
    have hg0 : ∀ g, gnm 0 ≤ gnm g := fun g => by unfold gnm; omega
    have g0 : GOk ρ0 := fun g => by
      obtain ⟨l, hl, r⟩ := hg g
      exact ⟨l, by simp [ρ0, hg0 g, hl], r⟩
    have hr0 : HeapRep E.P ρ0 [(gnm g, tabAO vs)] w := by
      refine ⟨fun n o e => ?_, fun n m o o' l l' e1 e2 hne => ?_⟩
      · simp only [get] at e
        split at e
        · rename_i hb; cases e
          have hb := Nat.eq_of_beq_eq_true hb
          subst hb
          obtain ⟨l, hl, ho⟩ := hr.1 (gnm g) _ (by simp [get]; rfl)
          refine ⟨l, by simp [ρ0, hg0 g, hl], ?_⟩
          obtain ⟨q1, q2, q3, q4, q5⟩ := ho
          refine ⟨q1, q2, q3, q4, fun hcap => ?_⟩
          obtain ⟨c, t, fr, r1, r2, r3, r4⟩ := q5 hcap
          refine ⟨c, t, fr, r1, r2, r3, fun i hi j k hj => ?_⟩
          obtain rfl : i = 0 := by omega
          have hlt : j < vs.length := by
            have := (List.getElem?_eq_some_iff.1 hj).1
            simpa using this
          obtain ⟨s1, x, s2, s3⟩ := r4 0 hi j k hj
          rw [hF j hlt] at s1 s3
          refine ⟨s1, x, s2, ?_⟩
          have hv : vs[j]? = some vs[j] := List.getElem?_eq_getElem hlt
          have e : tabF vs 0 j = ofVal vs[j] := by simp [tabF, nth_get, hv]
          rw [e] at s3 ⊢
          rcases plainB_get vs hp j _ hv with ⟨k, n, hk⟩ | ⟨b, hk⟩ <;> (rw [hk] at s3 ⊢; simpa [ofVal, cellOf, den] using s3)
        · cases e
      · exfalso
        simp only [get] at e1 e2
        split at e1
        · split at e2
          · rename_i a _ b
            have a := Nat.eq_of_beq_eq_true a
            have b := Nat.eq_of_beq_eq_true b
            omega
          · cases e2
        · cases e1
    have := ((all_ok hE fuel).ca f [] _ _ h1 hc).wp (by intro p hp; rw [h2] at hp; cases hp) ρ0 w hr0 (fun n h1 h2 => by simp at h1 h2; simp [ρ0]; omega) g0 [] rfl
    refine this.mono fun e w' ⟨x, ρ', he, hx, hs⟩ => ⟨x, ρ, he, (by rcases hv0 with rfl | rfl <;> exact hx.imp (fun h => by cases h) (fun e => by simpa [den, tabR] using e)), ?_⟩
    have same : ∀ b, b < w.heap.size → w'.heap[b]? = w.heap[b]? := fun b hb => hs.fr.same b hb (fun ⟨m, hm, o, l, e, ero, _⟩ => by
      simp only [get] at e
      split at e
      · cases e; cases ero
      · cases e)
    refine ⟨Le.refl ρ, fun n l a b => (by rw [a] at b; cases b), ⟨fun n o e => ?_, hr.2⟩, ⟨hs.fr.size, fun b hb _ => same b hb, hs.fr.tape, hs.fr.os, hs.fr.output⟩, fun n o l a b c _ => ⟨n, o, l, a, rfl, b, c, rfl, .inl rfl⟩⟩
    obtain ⟨l, hl, ho⟩ := hr.1 n o e
    exact ⟨l, hl, ho.keep (Le.refl ρ) (fun hc => same _ (ho.lt hc))⟩

/-! ### the whole of a law's row, tables listed -/
def LawRunsT (P : Program) (f : Nat) (ts : List TypeId) (tabs : List (Nat × List Value)) : Prop :=
  ∀ (H : Type) (enc : TypeId × Value → H) (W : World) (base : Nat) (args : List Value) (ds : List (DataW H)) (p : List MemPlace),
    (∀ (j : Nat) t v, ts[j]? = some t → args[j]? = some v → Value.okWide P W .any base t v) → DataW.TrodAll enc P W 0 (fun _ => true) true ts args ds p →
    (∀ g vs, (g, vs) ∈ tabs → vs ≠ [] → ∃ t, W.heap[g]? = some (.cells vs.toArray t (0, 0))) →
    Calls P f args.toArray W fun e W' => e = .returned (.bool true) ∧ RowKit.Below W.heap.size W W'

theorem law_contractT {P : Program} {f : Nat} {fn : Func} {ts : List TypeId} {tabs : List (Nat × List Value)} (hp : fn.params = ts.toArray) (h : LawRunsT P f ts tabs) {H : Type} {enc : TypeId × Value → H} {s : ChangeSpec} {apart fresh handsOn : Bool} {tb : TypeId}
    (hl : laidOutB P = true) (hts : ∀ t ∈ fn.params.toList, P.readableRec t = true ∧ t < P.types.size) (hr : fn.resultTypes = #[tb]) (htb : P.underlying tb = some .bool) (hvars : s.vars = [])
    (hs : ∀ ds : List (DataW H), ds.length = ts.length → (s.fn H ds).results = [.lit (.bool true)] ∧ (s.fn H ds).args = ds ∧ (s.fn H ds).vars = [])
    (W : World) (base : Nat) (args : Array Value) (ds gs : List (DataW H)) (before : List MemPlace) (hval : ∀ (j : Nat) t v, fn.params[j]? = some t → args[j]? = some v → Value.okWide P W .any base t v)
    (hW : DataW.Whole enc P fn.params.toList s.vars apart W args.toList ds gs before) (htab : ∀ g vs, (g, vs) ∈ tabs → vs ≠ [] → ∃ t, W.heap[g]? = some (.cells vs.toArray t (0, 0))) :
    Calls P f args W fun e W' => ∃ v, e = .returned v ∧ s.post enc P fn apart fresh handsOn false W args v W' := by
  have hW0 := hW
  obtain ⟨p, q, hA, hV, rfl, _, _⟩ := hW0
  rw [hvars] at hV
  cases gs with
  | cons g gs => cases hV
  | nil =>
    have hlen := (trodAll_length hA).2
    rw [hp] at hA hlen
    have := h H enc W base args.toList ds p (fun j t v h1 h2 => hval j t v (by rw [hp]; simpa using h1) (by simpa using h2)) (by simpa using hA) htab
    rw [Array.toArray_toList] at this
    refine this.mono fun e W' ⟨he, hb⟩ => ⟨.bool true, he, ?_⟩
    obtain ⟨h1, h2, h3⟩ := hs ds (by simpa using hlen)
    exact law_post hl hts hr htb hvars hW (by simpa using h1) (by simpa using h2) (by simpa using h3) hb
end Go.Ev

/-
  Plain facts for contracts: searching, counting, numbers.
-/
set_option linter.unusedSimpArgs false
set_option linter.unusedVariables false
namespace Go.Ev

/-- The first place below n at which p holds, else n. -/
def fnd (p : Nat → Bool) : Nat → Nat
  | 0 => 0
  | n + 1 => if fnd p n < n then fnd p n else if p n = true then n else n + 1
theorem fnd_le (p : Nat → Bool) : ∀ n, fnd p n ≤ n
  | 0 => Nat.le_refl _
  | n + 1 => by have := fnd_le p n; simp only [fnd]; split <;> (try split) <;> omega
theorem fnd_none {p : Nat → Bool} : ∀ {n : Nat}, (∀ j, j < n → p j = false) → fnd p n = n
  | 0, _ => rfl
  | n + 1, h => by
    have := fnd_none (p := p) (n := n) (fun j hj => h j (by omega))
    simp [fnd, this, h n (by omega)]
theorem fnd_eq {p : Nat → Bool} {i : Nat} : ∀ {n : Nat}, i < n → p i = true → (∀ j, j < i → p j = false) → fnd p n = i
  | 0, h, _, _ => by omega
  | n + 1, h, hp, hb => by
    by_cases e : i = n
    · subst e
      have := fnd_none hb
      simp [fnd, this, hp]
    · have := fnd_eq (n := n) (by omega) hp hb
      simp [fnd, this]; omega
theorem first_true (p : Nat → Bool) (n : Nat) : (∀ i, i < n → p i = false) ∨ ∃ k, k < n ∧ p k = true ∧ ∀ i, i < k → p i = false := by
  rcases first_false (fun i => !p i) n with h | ⟨k, h1, h2, h3⟩
  · exact .inl (fun i hi => by simpa using h i hi)
  · exact .inr ⟨k, h1, by simpa using h2, fun i hi => by simpa using h3 i hi⟩
theorem fnd_spec {p : Nat → Bool} {n : Nat} (h : fnd p n < n) : p (fnd p n) = true ∧ ∀ j, j < fnd p n → p j = false := by
  rcases first_true p n with h1 | ⟨k, h1, h2, h3⟩
  · rw [fnd_none h1] at h; omega
  · rw [fnd_eq h1 h2 h3]; exact ⟨h2, h3⟩
theorem fnd_no {p : Nat → Bool} {n : Nat} (h : ¬ fnd p n < n) : ∀ j, j < n → p j = false := by
  rcases first_true p n with h1 | ⟨k, h1, h2, h3⟩
  · exact h1
  · rw [fnd_eq h1 h2 h3] at h; omega

/-- What is found at the first place, else another. -/
def srch (p : Nat → Bool) (n : Nat) (v : Nat → Int) (v0 : Int) : Int := if fnd p n < n then v (fnd p n) else v0
def srchB (p : Nat → Bool) (n : Nat) : Bool := decide (fnd p n < n)
theorem srch_at {p : Nat → Bool} {n k : Nat} {v : Nat → Int} {v0 : Int} (h1 : k < n) (h2 : p k = true) (h3 : ∀ i, i < k → p i = false) : srch p n v v0 = v k := by
  unfold srch; rw [fnd_eq h1 h2 h3, if_pos h1]
theorem srch_no {p : Nat → Bool} {n : Nat} {v : Nat → Int} {v0 : Int} (h : ∀ i, i < n → p i = false) : srch p n v v0 = v0 := by
  unfold srch; rw [fnd_none h, if_neg (Nat.lt_irrefl _)]
theorem srchB_at {p : Nat → Bool} {n k : Nat} (h1 : k < n) (h2 : p k = true) (h3 : ∀ i, i < k → p i = false) : srchB p n = true := by
  unfold srchB; rw [fnd_eq h1 h2 h3]; exact decide_eq_true h1
theorem srchB_no {p : Nat → Bool} {n : Nat} (h : ∀ i, i < n → p i = false) : srchB p n = false := by
  unfold srchB; rw [fnd_none h]; exact decide_eq_false (Nat.lt_irrefl _)
theorem srch_congr {p q : Nat → Bool} {n : Nat} {v w : Nat → Int} {v0 : Int} (h : ∀ i, i < n → p i = q i) (hv : ∀ i, i < n → v i = w i) : srch p n v v0 = srch q n w v0 := by
  rcases first_true p n with h1 | ⟨k, h1, h2, h3⟩
  · rw [srch_no h1, srch_no (fun i hi => by rw [← h i hi]; exact h1 i hi)]
  · rw [srch_at h1 h2 h3, srch_at h1 (by rw [← h k h1]; exact h2) (fun i hi => by rw [← h i (by omega)]; exact h3 i hi), hv k h1]

theorem and2_eq (a b : Bool) : and2 a b = (a && b) := by cases a <;> rfl
theorem u64m (x : Int) : IntKind.u64.wrap x = x % 18446744073709551616 := by
  simp [IntKind.wrap, IntKind.signed, IntKind.bits]
theorem u64r (x : Int) : 0 ≤ IntKind.u64.wrap x ∧ IntKind.u64.wrap x < 18446744073709551616 := by rw [u64m]; omega
theorem u64w {x : Int} (h0 : 0 ≤ x) (h1 : x < 18446744073709551616) : IntKind.u64.wrap x = x := by rw [u64m]; omega
theorem u8m (x : Int) : IntKind.u8.wrap x = x % 256 := by
  simp [IntKind.wrap, IntKind.signed, IntKind.bits]
theorem i64w {x : Int} (h0 : -9223372036854775808 ≤ x) (h1 : x < 9223372036854775808) : IntKind.i64.wrap x = x := by
  show (if (true && decide (x % 18446744073709551616 ≥ (9223372036854775808 : Int))) = true then x % 18446744073709551616 - 18446744073709551616 else x % 18446744073709551616) = x
  by_cases h : x % 18446744073709551616 ≥ 9223372036854775808
  · rw [if_pos (by simpa using h)]; omega
  · rw [if_neg (by simpa using h)]; omega

/-- A law's ways. -/
def Runs (run : List Hint → Option (AV × List Prop × Bool)) : Prop := ∃ h v ob, run h = some (v, ob, true) ∧ isTrue v ∧ ∀ p ∈ ob, p
theorem goodB {P : Program} (h1 : P.follows .mixedOrders = true) (h2 : P.funcs.toList.all (fun fn => !fn.body.isSome || !(fn.name == "runtime.NumGoroutine")) = true) : Good P where
  mixed := h1
  names := fun f fn h h3 => by
    have hm : fn ∈ P.funcs.toList := by
      obtain ⟨hlt, rfl⟩ := Array.getElem?_eq_some_iff.1 h
      simp
    have := List.all_eq_true.1 h2 fn hm
    simpa [h3] using this
theorem eq_no {b : Bool} : ((b == b) == false) = false := by cases b <;> rfl
theorem avI_s (k : IntKind) (n : Int) : avInt (.sym k n) = n := rfl
theorem avI_i (k : IntKind) (n : Int) : avInt (.int k n) = n := rfl
theorem avB_s (b : Bool) : avBool (.symb b) = b := rfl
theorem avB_b (b : Bool) : avBool (.bool b) = b := rfl
theorem u8_range {n : Int} (h : (Lit.int .u8 n).wf = true) : 0 ≤ n ∧ n < 256 := by
  simp [Lit.wf, IntKind.min, IntKind.max, IntKind.bits, IntKind.signed] at h; omega
theorem u16_range {n : Int} (h : (Lit.int .u16 n).wf = true) : 0 ≤ n ∧ n < 65536 := by
  simp [Lit.wf, IntKind.min, IntKind.max, IntKind.bits, IntKind.signed] at h; omega
theorem u32_range {n : Int} (h : (Lit.int .u32 n).wf = true) : 0 ≤ n ∧ n < 4294967296 := by
  simp [Lit.wf, IntKind.min, IntKind.max, IntKind.bits, IntKind.signed] at h; omega
theorem i64_range {n : Int} (h : (Lit.int .i64 n).wf = true) : -9223372036854775808 ≤ n ∧ n < 9223372036854775808 := by
  simp [Lit.wf, IntKind.min, IntKind.max, IntKind.bits, IntKind.signed] at h; omega
end Go.Ev

/-
  An environment out of contracts, some of which a hint chooses.
-/
set_option linter.unusedSimpArgs false
set_option linter.unusedVariables false
namespace Go.Ev
abbrev SP := List AV → Hp → Option (AV × Hp)
def SPOk (P : Program) (f : FuncId) (g : SP) : Prop := ∀ args h v h', g args h = some (v, h') → CaOk P f args h v h'
abbrev SpecOk (P : Program) (f : FuncId) (s : LSpec) : Prop := ∀ la lh R, s la lh = some R → LocOk P f la lh R
def locSP (s : LSpec) : SP := applyLoc (nrm s)
theorem locSP_ok {P : Program} {f : FuncId} {s : LSpec} (h : SpecOk P f s) : SPOk P f (locSP s) := fun _ _ _ _ e => applyLoc_ok (nrm_ok h) e
/-- As the evaluator has it, closed values as they are. -/
def rawSP (s : LSpec) : SP := applyLoc s
theorem rawSP_ok {P : Program} {f : FuncId} {s : LSpec} (h : SpecOk P f s) : SPOk P f (rawSP s) := fun _ _ _ _ e => applyLoc_ok h e
def altSP (s t : LSpec) : SP := fun args h => match h.hints with
  | .b c :: r => match c with
    | true => applyLoc (nrm s) args { h with hints := r }
    | false => applyLoc (nrm t) args { h with hints := r }
  | _ => none
theorem altSP_ok {P : Program} {f : FuncId} {s t : LSpec} (hs : SpecOk P f s) (ht : SpecOk P f t) : SPOk P f (altSP s t) := by
  intro args h v h' e
  unfold altSP at e
  split at e
  · rename_i c r hr
    split at e
    · have o := applyLoc_ok (nrm_ok hs) e
      exact ⟨⟨o.mono.ob, o.mono.nxt, o.mono.hi, o.mono.wr⟩, fun ho ρ w hr hf hg xs hx => (o.wp ho ρ w hr hf hg xs hx).mono fun e w' ⟨x, ρ', a, b, c⟩ => ⟨x, ρ', a, b, ⟨c.le, c.new, c.rep, c.fr, c.own⟩⟩⟩
    · have o := applyLoc_ok (nrm_ok ht) e
      exact ⟨⟨o.mono.ob, o.mono.nxt, o.mono.hi, o.mono.wr⟩, fun ho ρ w hr hf hg xs hx => (o.wp ho ρ w hr hf hg xs hx).mono fun e w' ⟨x, ρ', a, b, c⟩ => ⟨x, ρ', a, b, ⟨c.le, c.new, c.rep, c.fr, c.own⟩⟩⟩
  · cases e
def orSP (a b : SP) : SP := fun args h => match a args h with
  | some x => some x
  | none => b args h
theorem orSP_ok {P : Program} {f : FuncId} {a b : SP} (ha : SPOk P f a) (hb : SPOk P f b) : SPOk P f (orSP a b) := by
  intro args h v h' e
  unfold orSP at e
  split at e
  · rename_i x hx; cases e; exact ha _ _ _ _ hx
  · exact hb _ _ _ _ e
def spOf : List (FuncId × SP) → FuncId → Option SP
  | [], _ => none
  | (g, s) :: r, f => match Nat.beq g f with
    | true => some s
    | false => spOf r f
def SPsOk (P : Program) : List (FuncId × SP) → Prop
  | [] => True
  | (g, s) :: r => SPOk P g s ∧ SPsOk P r
theorem spOf_ok {P : Program} : ∀ (l : List (FuncId × SP)), SPsOk P l → ∀ f g, spOf l f = some g → SPOk P f g
  | [], _, f, g, e => by cases e
  | (q, s) :: r, ok, f, g, e => by
    simp only [spOf] at e
    split at e
    · rename_i hq
      have hq := Nat.eq_of_beq_eq_true hq; subst hq
      cases e
      exact ok.1
    · exact spOf_ok r ok.2 f g e
def envG (P : Program) (l : List (FuncId × SP)) : Env := ⟨P, spOf l, LoopHolds P⟩
theorem envG_ok {P : Program} (G : Good P) {l : List (FuncId × SP)} (ok : SPsOk P l) : EnvOk (envG P l) :=
  ⟨G, fun _ _ _ _ h => h, spOf_ok l ok⟩
end Go.Ev

/-
  Memories: the program's (a map), the document's (a list of words): definitions and plain facts.
-/
set_option linter.unusedSimpArgs false
set_option linter.unusedVariables false
namespace Go.Ev

structure Wd where
  k : Int
  a : Int
  f : Int
  v : Int
def wSh : List CK := [.int .u8, .int .i64, .int .i64, .int .u64]
def wdOf (r : Nat → AV) : Wd := ⟨avInt (r 0), avInt (r 1), avInt (r 2), avInt (r 3)⟩
def wdR (w : Wd) : Nat → AV := fun j => match j with
  | 0 => .sym .u8 w.k
  | 1 => .sym .i64 w.a
  | 2 => .sym .i64 w.f
  | 3 => .sym .u64 w.v
  | _ => .top
def wdF (W : Nat → Wd) : Nat → Nat → AV := fun i j => wdR (W i) j
theorem row_wd {f : Nat → AV} {w : Wd} (h : wdOf f = w) : rowOb wSh 0 f (wdR w) := by
  subst h; exact ⟨rfl, rfl, rfl, rfl, trivial⟩

/-- The kind's numbers: how many At, how many fields. -/
def kAt (k : Int) : Int := if k = 6 then 32 else if k = 7 then 4 else if k = 8 then 16 else if k = 9 then 256 else if k = 10 then 9 else 1
def kFl (k : Int) : Int := if k = 6 then 2 else if k = 8 then 10 else if k = 9 then 8 else if k = 11 then 2 else 1
def mayA (k a f : Int) : Bool := decide (k ≤ 11 ∧ 0 ≤ a ∧ a < kAt k ∧ 0 ≤ f ∧ f < kFl k)
def mayR (k a f : Int) : LR := ⟨0, .symb (mayA k a f), [], 0, [], [0 ≤ k]⟩
def key (k a f : Int) : List Int := [k, a, f]
def memPut (M : List Int → Option Int) (k a f v : Int) : List Int → Option Int := match mayA k a f with
  | true => setKey M (key k a f) (some v)
  | false => M
def memIs (M : List Int → Option Int) (k a f v : Int) : Int := match mayA k a f with
  | true => v
  | false => mget M (key k a f)
theorem setKey2 (M : List Int → Option Int) (k : List Int) (a b : Option Int) : setKey (setKey M k a) k b = setKey M k b := by
  funext q
  simp only [setKey]
  split <;> rfl
def casD (M : List Int → Option Int) (k a f w : Int) : Bool := match mget M (key k a f) == w with
  | true => mayA k a f
  | false => false
def casM (M : List Int → Option Int) (k a f w v : Int) : List Int → Option Int := match casD M k a f w with
  | true => setKey M (key k a f) (some v)
  | false => M
def casI (M : List Int → Option Int) (k a f w v : Int) : Int := match casD M k a f w with
  | true => v
  | false => mget M (key k a f)
def lastL (c k a f w i : Int) (d : Bool) : List AV := [.sym .u8 c, .sym .u8 k, .sym .i64 a, .sym .i64 f, .sym .u64 w, .sym .u64 i, .symb d]

/-! ### the document's memory -/
structure DM where
  n : Nat
  W : Nat → Wd
def dOf (n : Nat) (g : Nat → Nat → AV) : DM := ⟨n, fun i => wdOf (g i)⟩
def hit (w : Wd) (k a f : Int) : Bool := and2 (w.k == k) (and2 (w.a == a) (and2 (w.f == f) true))
def dAt (D : DM) (k a f : Int) : Nat := fnd (fun i => hit (D.W (0 + i)) k a f) D.n
def dWord (D : DM) (k a f : Int) : Int := srch (fun i => hit (D.W (0 + i)) k a f) D.n (fun i => (D.W (0 + i)).v) 0
def dSet (D : DM) (j : Nat) (v : Int) : DM := ⟨D.n, fun i => if i = j then ⟨(D.W i).k, (D.W i).a, (D.W i).f, v⟩ else D.W i⟩
def dAdd (D : DM) (k a f v : Int) : DM := ⟨D.n + 1, fun i => if i < D.n then D.W i else ⟨k, a, f, v⟩⟩
def dPut (D : DM) (k a f v : Int) : DM := match mayA k a f with
  | false => D
  | true => match Nat.blt (dAt D k a f) D.n with
    | true => dSet D (dAt D k a f) v
    | false => dAdd D k a f v
def dCasD (D : DM) (k a f w : Int) : Bool := match dWord D k a f == w with
  | true => mayA k a f
  | false => false
def dCasM (D : DM) (k a f w v : Int) : DM := match dCasD D k a f w with
  | true => dPut D k a f v
  | false => D

theorem hit_iff {w : Wd} {k a f : Int} : hit w k a f = true ↔ w.k = k ∧ w.a = a ∧ w.f = f := by
  simp [hit, and2_eq]
theorem dOf_wdF (D : DM) : dOf D.n (wdF D.W) = D := rfl
theorem dPut_may {D : DM} {k a f v : Int} (h : mayA k a f = false) : dPut D k a f v = D := by simp [dPut, h]
theorem dPut_at {D : DM} {k a f v : Int} {j : Nat} (h : mayA k a f = true) (hj : j < D.n) (h2 : hit (D.W (0 + j)) k a f = true) (h3 : ∀ i, i < j → hit (D.W (0 + i)) k a f = false) : dPut D k a f v = dSet D j v := by
  have e : dAt D k a f = j := fnd_eq hj h2 h3
  have b : Nat.blt j D.n = true := by simpa [Nat.blt_eq] using hj
  simp only [dPut, h, e, b]
theorem dPut_no {D : DM} {k a f v : Int} (h : mayA k a f = true) (h3 : ∀ i, i < D.n → hit (D.W (0 + i)) k a f = false) : dPut D k a f v = dAdd D k a f v := by
  have e : dAt D k a f = D.n := fnd_none h3
  have b : Nat.blt D.n D.n = false := by
    cases hb : Nat.blt D.n D.n with
    | false => rfl
    | true => simp [Nat.blt_eq] at hb
  simp only [dPut, h, e, b]
theorem dPut_n (D : DM) (k a f v : Int) : (dPut D k a f v).n ≤ D.n + 1 ∧ D.n ≤ (dPut D k a f v).n := by
  unfold dPut
  split
  · exact ⟨by omega, by omega⟩
  · split
    · exact ⟨by simp [dSet], by simp [dSet]⟩
    · exact ⟨by simp [dAdd], by simp [dAdd]⟩

theorem dWord_at {D : DM} {k a f : Int} {j : Nat} (hj : j < D.n) (h2 : hit (D.W (0 + j)) k a f = true) (h3 : ∀ i, i < j → hit (D.W (0 + i)) k a f = false) : dWord D k a f = (D.W (0 + j)).v := srch_at hj h2 h3
theorem dWord_no {D : DM} {k a f : Int} (h3 : ∀ i, i < D.n → hit (D.W (0 + i)) k a f = false) : dWord D k a f = 0 := srch_no h3
theorem first_hit (D : DM) (k a f : Int) : (∀ i, i < D.n → hit (D.W (0 + i)) k a f = false) ∨ ∃ j, j < D.n ∧ hit (D.W (0 + j)) k a f = true ∧ ∀ i, i < j → hit (D.W (0 + i)) k a f = false := first_true _ _

theorem dWord_set {D : DM} {k a f v k' a' f' : Int} {j : Nat} (hj : j < D.n) (h2 : hit (D.W (0 + j)) k a f = true) (h3 : ∀ i, i < j → hit (D.W (0 + i)) k a f = false) :
    dWord (dSet D j v) k' a' f' = if k' = k ∧ a' = a ∧ f' = f then v else dWord D k' a' f' := by
  have hh : ∀ i, hit ((dSet D j v).W (0 + i)) k' a' f' = hit (D.W (0 + i)) k' a' f' := by
    intro i
    simp only [dSet, Nat.zero_add]
    split <;> rfl
  obtain ⟨e1, e2, e3⟩ := hit_iff.1 h2
  by_cases hk : k' = k ∧ a' = a ∧ f' = f
  · rw [if_pos hk]
    obtain ⟨rfl, rfl, rfl⟩ := hk
    rw [dWord_at (D := dSet D j v) hj (by rw [hh]; exact h2) (fun i hi => by rw [hh]; exact h3 i hi)]
    simp [dSet]
  · rw [if_neg hk]
    rcases first_hit D k' a' f' with h | ⟨i, q1, q2, q3⟩
    · rw [dWord_no h, dWord_no (D := dSet D j v) (fun i hi => by rw [hh]; exact h i hi)]
    · rw [dWord_at q1 q2 q3, dWord_at (D := dSet D j v) q1 (by rw [hh]; exact q2) (fun l hl => by rw [hh]; exact q3 l hl)]
      have : i ≠ j := fun e => by
        subst e
        obtain ⟨z1, z2, z3⟩ := hit_iff.1 q2
        exact hk ⟨z1.symm.trans e1, z2.symm.trans e2, z3.symm.trans e3⟩
      simp [dSet, this]
theorem dWord_add {D : DM} {k a f v k' a' f' : Int} (h3 : ∀ i, i < D.n → hit (D.W (0 + i)) k a f = false) :
    dWord (dAdd D k a f v) k' a' f' = if k' = k ∧ a' = a ∧ f' = f then v else dWord D k' a' f' := by
  have hh : ∀ i, i < D.n → (dAdd D k a f v).W (0 + i) = D.W (0 + i) := by
    intro i hi
    simp only [dAdd, Nat.zero_add]
    rw [if_pos hi]
  have hl : (dAdd D k a f v).W (0 + D.n) = ⟨k, a, f, v⟩ := by simp [dAdd]
  by_cases hk : k' = k ∧ a' = a ∧ f' = f
  · rw [if_pos hk]
    obtain ⟨rfl, rfl, rfl⟩ := hk
    rw [dWord_at (D := dAdd D k' a' f' v) (j := D.n) (by simp [dAdd]) (by rw [hl]; exact hit_iff.2 ⟨rfl, rfl, rfl⟩) (fun i hi => by rw [hh i hi]; exact h3 i hi), hl]
  · rw [if_neg hk]
    rcases first_hit D k' a' f' with h | ⟨i, q1, q2, q3⟩
    · rw [dWord_no h, dWord_no (D := dAdd D k a f v) (fun i hi => by
        by_cases e : i < D.n
        · rw [hh i e]; exact h i e
        · have : i = D.n := by simp [dAdd] at hi; omega
          subst this
          rw [hl]
          cases hq : hit (⟨k, a, f, v⟩ : Wd) k' a' f' with
          | false => rfl
          | true => obtain ⟨z1, z2, z3⟩ := hit_iff.1 hq; exact (hk ⟨z1.symm, z2.symm, z3.symm⟩).elim)]
    · rw [dWord_at q1 q2 q3, dWord_at (D := dAdd D k a f v) (j := i) (by simp [dAdd]; omega) (by rw [hh i q1]; exact q2) (fun l hl => by rw [hh l (by omega)]; exact q3 l hl), hh i q1]
theorem dWord_put (D : DM) (k a f v k' a' f' : Int) : dWord (dPut D k a f v) k' a' f' = if mayA k a f = true ∧ k' = k ∧ a' = a ∧ f' = f then v else dWord D k' a' f' := by
  cases hm : mayA k a f with
  | false => rw [dPut_may hm]; simp
  | true =>
    rcases first_hit D k a f with h | ⟨j, q1, q2, q3⟩
    · rw [dPut_no hm h, dWord_add h]; simp
    · rw [dPut_at hm q1 q2 q3, dWord_set q1 q2 q3]; simp
theorem key_inj {k a f k' a' f' : Int} (h : key k a f = key k' a' f') : k = k' ∧ a = a' ∧ f = f' := by
  simpa [key] using h
theorem mget_set (M : List Int → Option Int) (k a f v k' a' f' : Int) : mget (setKey M (key k a f) (some v)) (key k' a' f') = if k' = k ∧ a' = a ∧ f' = f then v else mget M (key k' a' f') := by
  by_cases h : k' = k ∧ a' = a ∧ f' = f
  · obtain ⟨rfl, rfl, rfl⟩ := h
    simp [mget, setKey]
  · rw [if_neg h]
    have : key k' a' f' ≠ key k a f := fun e => h (key_inj e)
    simp [mget, setKey, this]
theorem mget_put (M : List Int → Option Int) (k a f v k' a' f' : Int) : mget (memPut M k a f v) (key k' a' f') = if mayA k a f = true ∧ k' = k ∧ a' = a ∧ f' = f then v else mget M (key k' a' f') := by
  cases hm : mayA k a f with
  | false => simp [memPut, hm]
  | true => simp only [memPut, hm, mget_set]; simp
theorem memIs_put (M : List Int → Option Int) (k a f v : Int) : memIs M k a f v = mget (memPut M k a f v) (key k a f) := by
  rw [mget_put]
  unfold memIs
  cases hm : mayA k a f <;> simp
theorem casM_put (M : List Int → Option Int) (k a f w v : Int) : casM M k a f w v = if casD M k a f w = true then memPut M k a f v else M := by
  unfold casM
  cases hc : casD M k a f w with
  | false => simp
  | true =>
    have hm : mayA k a f = true := by
      unfold casD at hc
      split at hc
      · exact hc
      · cases hc
    simp [memPut, hm]
theorem casI_eq (M : List Int → Option Int) (k a f w v : Int) : casI M k a f w v = mget (casM M k a f w v) (key k a f) := by
  unfold casI casM
  split
  · rw [mget_set]; simp
  · rfl

/-- Both memories have the same words. -/
def Agr (M : List Int → Option Int) (D : DM) : Prop := ∀ k a f, mget M (key k a f) = dWord D k a f
theorem Agr.put {M : List Int → Option Int} {D : DM} (h : Agr M D) (k a f v : Int) : Agr (memPut M k a f v) (dPut D k a f v) := fun k' a' f' => by
  rw [mget_put, dWord_put, h]
theorem Agr.is {M : List Int → Option Int} {D : DM} (h : Agr M D) (k a f v : Int) : memIs M k a f v = dWord (dPut D k a f v) k a f := by
  rw [memIs_put, h.put]
theorem Agr.casD {M : List Int → Option Int} {D : DM} (h : Agr M D) (k a f w : Int) : Go.Ev.casD M k a f w = dCasD D k a f w := by
  unfold Go.Ev.casD dCasD
  rw [h]
theorem Agr.cas {M : List Int → Option Int} {D : DM} (h : Agr M D) (k a f w v : Int) : Agr (casM M k a f w v) (dCasM D k a f w v) := by
  rw [casM_put, h.casD]
  unfold dCasM
  cases hc : dCasD D k a f w with
  | false => simpa using h
  | true => simpa using h.put k a f v
theorem Agr.casI {M : List Int → Option Int} {D : DM} (h : Agr M D) (k a f w v : Int) : Go.Ev.casI M k a f w v = dWord (dCasM D k a f w v) k a f := by
  rw [casI_eq, h.cas]
theorem Agr.nil : Agr (fun _ => none) ⟨0, fun _ => ⟨0, 0, 0, 0⟩⟩ := fun k a f => by
  rw [dWord_no (fun i hi => absurd hi (Nat.not_lt_zero i))]; rfl

/-- A pair of memories. -/
structure LS where
  c : Int
  k : Int
  a : Int
  f : Int
  w : Int
  i : Int
  d : Bool
def LS.l (x : LS) : List AV := lastL x.c x.k x.a x.f x.w x.i x.d
structure MS where
  M : List Int → Option Int
  st : Int
  L : LS
structure RS where
  D : DM
  st : Int
  L : LS
def mStore (S : MS) (k a f v : Int) : MS := ⟨memPut S.M k a f v, IntKind.i64.wrap (S.st + 1), ⟨2, k, a, f, mget S.M (key k a f), memIs S.M k a f v, false⟩⟩
def mLoad (S : MS) (k a f : Int) : MS := ⟨S.M, IntKind.i64.wrap (S.st + 1), ⟨1, k, a, f, mget S.M (key k a f), mget S.M (key k a f), false⟩⟩
def mCas (S : MS) (k a f w v : Int) : MS := ⟨casM S.M k a f w v, IntKind.i64.wrap (S.st + 1), ⟨3, k, a, f, mget S.M (key k a f), casI S.M k a f w v, casD S.M k a f w⟩⟩
def rStore (S : RS) (k a f v : Int) : RS := ⟨dPut S.D k a f v, IntKind.i64.wrap (S.st + 1), ⟨2, k, a, f, dWord S.D k a f, dWord (dPut S.D k a f v) k a f, false⟩⟩
def rLoad (S : RS) (k a f : Int) : RS := ⟨S.D, IntKind.i64.wrap (S.st + 1), ⟨1, k, a, f, dWord S.D k a f, dWord S.D k a f, false⟩⟩
def rCas (S : RS) (k a f w v : Int) : RS := ⟨dCasM S.D k a f w v, IntKind.i64.wrap (S.st + 1), ⟨3, k, a, f, dWord S.D k a f, dWord (dCasM S.D k a f w v) k a f, dCasD S.D k a f w⟩⟩
structure Both (S : MS) (R : RS) : Prop where
  agr : Agr S.M R.D
  st : S.st = R.st
  L : S.L = R.L
theorem Both.store {S : MS} {R : RS} (h : Both S R) (k a f v : Int) : Both (mStore S k a f v) (rStore R k a f v) :=
  ⟨h.agr.put k a f v, by simp [mStore, rStore, h.st], by simp [mStore, rStore, h.agr k a f, h.agr.is]⟩
theorem Both.load {S : MS} {R : RS} (h : Both S R) (k a f : Int) : Both (mLoad S k a f) (rLoad R k a f) :=
  ⟨h.agr, by simp [mLoad, rLoad, h.st], by simp [mLoad, rLoad, h.agr k a f]⟩
theorem Both.cas {S : MS} {R : RS} (h : Both S R) (k a f w v : Int) : Both (mCas S k a f w v) (rCas R k a f w v) :=
  ⟨h.agr.cas k a f w v, by simp [mCas, rCas, h.st], by simp [mCas, rCas, h.agr k a f, h.agr.casI, h.agr.casD]⟩
def ms0 : MS := ⟨fun _ => none, 0, ⟨0, 0, 0, 0, 0, 0, false⟩⟩
def rs0 : RS := ⟨⟨0, fun _ => ⟨0, 0, 0, 0⟩⟩, 0, ⟨0, 0, 0, 0, 0, 0, false⟩⟩
theorem Both.nil : Both ms0 rs0 := ⟨Agr.nil, rfl, rfl⟩
def msN (W : Nat → Wd) : Nat → MS
  | 0 => ms0
  | n + 1 => mStore (msN W n) (W (0 + n)).k (W (0 + n)).a (W (0 + n)).f (W (0 + n)).v
def rsN (W : Nat → Wd) : Nat → RS
  | 0 => rs0
  | n + 1 => rStore (rsN W n) (W (0 + n)).k (W (0 + n)).a (W (0 + n)).f (W (0 + n)).v
theorem bothN (W : Nat → Wd) : ∀ n, Both (msN W n) (rsN W n)
  | 0 => Both.nil
  | n + 1 => (bothN W n).store ..
theorem rsN_n (W : Nat → Wd) : ∀ n, (rsN W n).D.n ≤ n
  | 0 => Nat.le_refl _
  | n + 1 => by
    have := (dPut_n (rsN W n).D (W (0 + n)).k (W (0 + n)).a (W (0 + n)).f (W (0 + n)).v).1
    have := rsN_n W n
    show (dPut (rsN W n).D _ _ _ _).n ≤ n + 1
    omega
end Go.Ev

/-
  The ends of laws: what is handed in, tables that are listed.
-/
set_option linter.unusedSimpArgs false
set_option linter.unusedVariables false
namespace Go.Ev
theorem rep_nil {P : Program} {W : World} {ls : List (Nat × Loc)} {tabs : List (Nat × List Value)} : ∀ n o, get ([] : List (Nat × AO)) n = some o → o.ro = true ∧ ∃ l, get ls n = some l ∧ ObjRep P (inpT ls tabs) W l o := fun n o e => by simp [get] at e
theorem rep_cons {P : Program} {W : World} {ls : List (Nat × Loc)} {tabs : List (Nat × List Value)} {heap : List (Nat × AO)} {m : Nat} {L : Loc} {x : AO} (ho : x.ro = true) (hl : get ls m = some L) (h : ∀ ρ, ObjRep P ρ W L x)
    (hr : ∀ n o, get heap n = some o → o.ro = true ∧ ∃ l, get ls n = some l ∧ ObjRep P (inpT ls tabs) W l o) : ∀ n o, get ((m, x) :: heap) n = some o → o.ro = true ∧ ∃ l, get ls n = some l ∧ ObjRep P (inpT ls tabs) W l o := by
  intro n o e
  simp only [get] at e
  split at e
  · rename_i hb
    have hb := Nat.eq_of_beq_eq_true hb
    subst hb
    cases e
    exact ⟨ho, L, hl, h _⟩
  · exact hr n o e
end Go.Ev

/-
  Contracts of functions that read a table alone: plain values in, plain values out.
-/
set_option linter.unusedSimpArgs false
set_option linter.unusedVariables false
namespace Go.Ev
def TabIs (vs : List Value) (F : Nat → Nat → AV) : Prop := ∀ j, j < vs.length → F 0 j = tabF vs 0 j
theorem tabIs_self (vs : List Value) : TabIs vs (tabF vs) := fun _ _ => rfl
def allScalar : List AV → Bool
  | [] => true
  | x :: r => match scalar x with
    | true => allScalar r
    | false => false
def flatV : AV → Bool
  | .agg l => allScalar l
  | .tup l => allScalar l
  | v => scalar v
def allFlat : List AV → Bool
  | [] => true
  | x :: r => match flatV x with
    | true => allFlat r
    | false => false
theorem den_scalar {v : AV} (h : scalar v = true) (ρ ρ' : Ren) : den ρ v = den ρ' v := by
  unfold scalar at h
  split at h <;> first | (cases h; done) | simp [den, denL]
theorem denL_scalar : ∀ {l : List AV}, allScalar l = true → ∀ (ρ ρ' : Ren), denL ρ l = denL ρ' l
  | [], _, _, _ => rfl
  | x :: r, h, ρ, ρ' => by
    unfold allScalar at h
    split at h
    · rename_i hx
      simp only [denL, den_scalar hx ρ ρ', denL_scalar h ρ ρ']
    · cases h
theorem den_flat {v : AV} (h : flatV v = true) (ρ ρ' : Ren) : den ρ v = den ρ' v := by
  unfold flatV at h
  split at h
  · simp only [den, denL_scalar h ρ ρ']
  · simp only [den, denL_scalar h ρ ρ']
  · exact den_scalar h ρ ρ'
theorem denL_flat : ∀ {l : List AV}, allFlat l = true → ∀ (ρ ρ' : Ren), denL ρ l = denL ρ' l
  | [], _, _, _ => rfl
  | x :: r, h, ρ, ρ' => by
    unfold allFlat at h
    split at h
    · rename_i hx
      simp only [denL, den_flat hx ρ ρ', denL_flat h ρ ρ']
    · cases h
theorem relS_flat {v : AV} (h : flatV v = true) {ρ ρ' : Ren} {x : Value} (r : relS ρ v x) : relS ρ' v x :=
  r.imp id (fun e => by rw [den_flat h ρ' ρ]; exact e)

/-- A call that reads one table, and changes nothing. -/
def TabPure (P : Program) (f : FuncId) (la : List AV) (v : AV) (ob : List Prop) (g : Nat) (vs : List Value) : Prop :=
  ∀ ρ w, (∀ p ∈ ob, p) → HeapRep P ρ [(gnm g, tabAO vs)] w → Fresh ρ 0 (gnm 0) → GOk ρ → ∀ xs, denL ρ la = some xs →
    Calls P f xs.toArray w fun e w' => ∃ x, e = .returned x ∧ relS ρ v x ∧ Fr w w' (fun _ => False)

theorem tabPure_of_loc {P : Program} {f : FuncId} {la : List AV} {v : AV} {ob : List Prop} {g : Nat} {vs : List Value} (hv : flatV v = true)
    (h : LocOk P f la [(gnm g, tabAO vs)] ⟨0, v, [(gnm g, tabAO vs)], 0, [], ob⟩) : TabPure P f la v ob g vs := by
  intro ρ w hob hr hf hg xs hx
  refine (h ρ w hob hr (fun n h1 h2 => hf n (Nat.zero_le _) h2) hg xs hx).mono fun e w' ⟨x, ρ', he, hx, st⟩ => ⟨x, he, relS_flat hv hx, ?_⟩
  exact st.fr.mono (fun b ⟨m, hm, _⟩ => by cases hm)

theorem tabPure_closed {E : Env} (hE : EnvOk E) {fuel f g : Nat} {vs : List Value} {v : AV} (hv : flatV v = true)
    (h : (callF E fuel f [] ⟨[(gnm g, tabAO vs)], 0, gnm 0, [], [], [], true⟩).map (fun x => (x.1, x.2.ob)) = some (v, [])) : TabPure E.P f [] v [] g vs := by
  intro ρ w hob hr hf hg xs hx
  simp [denL] at hx
  subst hx
  cases hc : callF E fuel f [] ⟨[(gnm g, tabAO vs)], 0, gnm 0, [], [], [], true⟩ with
  | none => rw [hc] at h; cases h
  | some y =>
    rw [hc] at h
    simp only [Option.map_some, Option.some.injEq, Prod.mk.injEq] at h
    obtain ⟨v', h1⟩ := y
    obtain ⟨rfl, h2⟩ := h
    have := ((all_ok hE fuel).ca f [] _ _ h1 hc).wp (by intro p hp; rw [h2] at hp; cases hp) ρ w hr hf hg [] rfl
    refine this.mono fun e w' ⟨x, ρ', he, hx, st⟩ => ⟨x, he, relS_flat hv hx, ?_⟩
    refine ⟨st.fr.size, fun b hb hn => st.fr.same b hb (fun ⟨m, hm, o, l, e, ero, _⟩ => ?_), st.fr.tape, st.fr.os, st.fr.output⟩
    simp only [get] at e
    split at e
    · cases e; cases ero
    · cases e

theorem tabPure_true {P : Program} {f : FuncId} {la : List AV} {ob : List Prop} {g : Nat} {vs : List Value} {v : AV} (hv : isTrue v) (h : TabPure P f la v ob g vs) : TabPure P f la (.bool true) ob g vs := by
  intro ρ w hob hr hf hg xs hx
  refine (h ρ w hob hr hf hg xs hx).mono fun e w' ⟨x, he, hx, st⟩ => ⟨x, he, ?_, st⟩
  rcases hv with rfl | rfl
  · exact hx
  · exact hx.imp (fun e => by cases e) (fun e => by simpa [den] using e)

theorem arr_tab {P : Program} {ρ ρ' : Ren} {w : World} {l : Loc} {vs : List Value} {F : Nat → Nat → AV} (hp : plainB vs = true) (hF : TabIs vs F) (ho : ObjRep P ρ w l (.arr vs.length (vs.map kindOfV) true 1 F)) : ObjRep P ρ' w l (tabAO vs) := by
  obtain ⟨q1, q2, q3, q4, q5⟩ := ho
  refine ⟨q1, q2, q3, q4, fun hcap => ?_⟩
  obtain ⟨c, t, fr, r1, r2, r3, r4⟩ := q5 hcap
  refine ⟨c, t, fr, r1, r2, r3, fun i hi j k hj => ?_⟩
  obtain rfl : i = 0 := by omega
  have hlt : j < vs.length := by
    have := (List.getElem?_eq_some_iff.1 hj).1
    simpa using this
  obtain ⟨s1, x, s2, s3⟩ := r4 0 hi j k hj
  rw [hF j hlt] at s1 s3
  refine ⟨s1, x, s2, ?_⟩
  have hv : vs[j]? = some vs[j] := List.getElem?_eq_getElem hlt
  have e : tabF vs 0 j = ofVal vs[j] := by simp [tabF, nth_get, hv]
  rw [e] at s3 ⊢
  rcases plainB_get vs hp j _ hv with ⟨k, n, hk⟩ | ⟨b, hk⟩ <;> (rw [hk] at s3 ⊢; simpa [ofVal, cellOf, den] using s3)

/-- .. as a contract, whatever else lies there. -/
def tabSP (g : Nat) (vs : List Value) (s : List AV → Option (AV × List Prop)) : SP := fun args h => match get h.heap (gnm g), s (nrmL args) with
  | some (.arr n sh ro len F), some (v, ob) => match Nat.beq n vs.length && (shBeq sh (vs.map kindOfV) && (ro && (Nat.beq len 1 && (allFlat (nrmL args) && flatV v)))) with
    | true => some (v, ⟨h.heap, h.nxt, h.hi, h.hints, TabIs vs F :: (ob ++ h.ob), h.wr, h.auto⟩)
    | false => none
  | _, _ => none

theorem tabSP_ok {P : Program} {f : FuncId} {g : Nat} {vs : List Value} {s : List AV → Option (AV × List Prop)} (hp : plainB vs = true) (H : ∀ la v ob, s la = some (v, ob) → TabPure P f la v ob g vs) : SPOk P f (tabSP g vs s) := by
  intro args h v h' e
  unfold tabSP at e
  split at e
  case h_2 => cases e
  rename_i n sh ro len F v1 ob hgt hs
  split at e
  case h_2 => cases e
  rename_i hb
  cases e
  simp only [Bool.and_eq_true] at hb
  obtain ⟨e1, e2, e3, e4, e5, e6⟩ := hb
  have e1 := Nat.eq_of_beq_eq_true e1; subst e1
  have e2 := shBeq_eq e2; subst e2
  subst e3
  have e4 := Nat.eq_of_beq_eq_true e4; subst e4
  refine ⟨⟨fun p hp => List.mem_cons_of_mem _ (List.mem_append_right _ hp), Nat.le_refl _, rfl, fun n hn => hn⟩, fun ho ρ w hr hf hG xs hx => ?_⟩
  have hF : TabIs vs F := ho _ (List.mem_cons_self ..)
  have hob : ∀ p ∈ ob, p := fun p hp => ho p (List.mem_cons_of_mem _ (List.mem_append_left _ hp))
  obtain ⟨L, hL, hrep⟩ := hr.1 _ _ hgt
  let ρ0 : Ren := fun n => if gnm 0 ≤ n then ρ n else none
  have hg0 : ∀ g, gnm 0 ≤ gnm g := fun g => by unfold gnm; omega
  have g0 : GOk ρ0 := fun g => by
    obtain ⟨l, hl, r⟩ := hG g
    exact ⟨l, by simp [ρ0, hg0 g, hl], r⟩
  have hr0 : HeapRep P ρ0 [(gnm g, tabAO vs)] w := by
    refine ⟨fun n o e => ?_, fun n m o o' l l' e1 e2 hne => ?_⟩
    · simp only [get] at e
      split at e
      · rename_i hb; cases e
        have hb := Nat.eq_of_beq_eq_true hb
        subst hb
        exact ⟨L, by simp [ρ0, hg0 g, hL], arr_tab hp hF hrep⟩
      · cases e
    · exfalso
      simp only [get] at e1 e2
      split at e1
      · split at e2
        · rename_i a _ b
          have a := Nat.eq_of_beq_eq_true a
          have b := Nat.eq_of_beq_eq_true b
          omega
        · cases e2
      · cases e1
  have hx1 := nrmL_den _ _ hx
  have hx2 : denL ρ0 (nrmL args) = some xs := by rw [denL_flat e5 ρ0 ρ]; exact hx1
  refine (H _ _ _ hs ρ0 w hob hr0 (fun n h1 h2 => by simp [ρ0]; omega) g0 xs hx2).mono fun e w' ⟨x, he, hx, fr⟩ => ⟨x, ρ, he, relS_flat e6 hx, ?_⟩
  have same : ∀ b, b < w.heap.size → w'.heap[b]? = w.heap[b]? := fun b hb => fr.same b hb (fun h => h)
  refine ⟨Le.refl ρ, fun n l a b => (by rw [a] at b; cases b), ⟨fun n o e => ?_, hr.2⟩, ⟨fr.size, fun b hb _ => same b hb, fr.tape, fr.os, fr.output⟩, fun n o l a b c _ => ⟨n, o, l, a, rfl, b, c, rfl, .inl rfl⟩⟩
  obtain ⟨l, hl, ho⟩ := hr.1 n o e
  exact ⟨l, hl, ho.keep (Le.refl ρ) (fun hc => same _ (ho.lt hc))⟩
/-- A closed call that answers true. -/
def sNone : List AV → Option (AV × List Prop)
  | [] => some (.bool true, [])
  | _ => none
theorem sNone_ok {P : Program} {f : FuncId} {g : Nat} {vs : List Value} (h : TabPure P f [] (.bool true) [] g vs) : ∀ la v ob, sNone la = some (v, ob) → TabPure P f la v ob g vs := by
  intro la v ob e
  unfold sNone at e
  split at e
  · cases e; exact h
  · cases e
/-! ### .. in closed runs: no obligation is left -/
def avSame : AV → AV → Bool
  | .int k n, .int k' n' => match decide (k = k') with
    | true => decide (n = n')
    | false => false
  | .bool b, .bool c => match b, c with
    | true, true => true
    | false, false => true
    | _, _ => false
  | _, _ => false
theorem avSame_eq {a b : AV} (h : avSame a b = true) : a = b := by
  unfold avSame at h
  split at h
  · split at h
    · rename_i e; rw [of_decide_eq_true e, of_decide_eq_true h]
    · cases h
  · split at h
    · rfl
    · rfl
    · cases h
  · cases h
def tabBn (vs : List Value) (F : Nat → Nat → AV) : Nat → Bool
  | 0 => true
  | j + 1 => match avSame (F 0 j) (tabF vs 0 j) with
    | true => tabBn vs F j
    | false => false
theorem tabBn_ok {vs : List Value} {F : Nat → Nat → AV} : ∀ n, tabBn vs F n = true → ∀ j, j < n → F 0 j = tabF vs 0 j
  | 0, _, j, h => by omega
  | n + 1, e, j, h => by
    unfold tabBn at e
    split at e
    · rename_i q
      by_cases hj : j = n
      · subst hj; exact avSame_eq q
      · exact tabBn_ok n e j (by omega)
    · cases e
def tabSPc (g : Nat) (vs : List Value) (s : List AV → Option (AV × List Prop)) : SP := fun args h => match get h.heap (gnm g), s (nrmL args) with
  | some (.arr n sh ro len F), some (v, ob) => match Nat.beq n vs.length && (shBeq sh (vs.map kindOfV) && (ro && (Nat.beq len 1 && (allFlat (nrmL args) && flatV v)))), tabBn vs F vs.length with
    | true, true => some (v, ⟨h.heap, h.nxt, h.hi, h.hints, ob ++ h.ob, h.wr, h.auto⟩)
    | _, _ => none
  | _, _ => none
theorem tabSPc_ok {P : Program} {f : FuncId} {g : Nat} {vs : List Value} {s : List AV → Option (AV × List Prop)} (hp : plainB vs = true) (H : ∀ la v ob, s la = some (v, ob) → TabPure P f la v ob g vs) : SPOk P f (tabSPc g vs s) := by
  intro args h v h' e
  unfold tabSPc at e
  split at e
  case h_2 => cases e
  rename_i n sh ro len F v1 ob hgt hs
  split at e
  case h_2 => cases e
  rename_i hb ht
  cases e
  have q := tabSP_ok (f := f) hp H args h v ⟨h.heap, h.nxt, h.hi, h.hints, TabIs vs F :: (ob ++ h.ob), h.wr, h.auto⟩ (by unfold tabSP; rw [hgt, hs]; simp only [hb])
  refine ⟨⟨fun p hp => List.mem_append_right _ hp, Nat.le_refl _, rfl, fun n hn => hn⟩, fun ho ρ w hr hf hG xs hx => ?_⟩
  refine (q.wp (fun p hp => ?_) ρ w hr hf hG xs hx).mono fun e w' ⟨x, ρ', a, b, c⟩ => ⟨x, ρ', a, b, ⟨c.le, c.new, c.rep, c.fr, c.own⟩⟩
  rcases List.mem_cons.1 hp with rfl | hp
  · exact tabBn_ok _ ht
  · exact ho p hp
end Go.Ev
