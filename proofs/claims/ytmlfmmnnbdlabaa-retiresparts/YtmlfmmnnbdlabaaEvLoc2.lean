/-
  A loop seen under names of its own: the evaluator's step is sound.
-/
import Derived.Test.YtmlfmmnnbdlabaaEvRenOk
import Derived.Test.YtmlfmmnnbdlabaaEvDraw
set_option linter.unusedSimpArgs false
set_option linter.unusedVariables false
namespace Go.Ev

theorem relL_mask {ρ : Ren} (keep : List Nat) {l : List AV} {xs : List Value} (h : RelL ρ l xs) : RelL ρ (mask keep l 0) xs := by
  obtain ⟨h1, h2⟩ := h
  refine ⟨by rw [mask_length, h1], fun k v hk => ?_⟩
  rw [mask_get] at hk
  cases hv : l[k]? with
  | none => rw [hv] at hk; cases hk
  | some u =>
    obtain ⟨x, hx, hr⟩ := h2 k u hv
    rw [hv] at hk
    simp only [Option.map_some, Option.some.injEq] at hk
    refine ⟨x, hx, ?_⟩
    subst hk
    split
    · exact hr
    · exact .inl rfl

theorem lpl_ok {P : Program} {body : Code} {keep r : List Nat} {p k : Nat} {e : Ex} {tm : List AV} {heap : List (Nat × AO)} {wr0 : List Nat} {s sl : St} {tmo : List AV} {hp : List (Nat × AO)} {wr : List Nat} {rest : List Hint} {ob : List Prop} {auto : Bool}
    (hin0 : loopIn keep r p s = some sl) (hout0 : loopOut r p k tm heap wr0 s = some (tmo, hp, wr)) (H : LoopHolds P body sl e ⟨tm, ⟨heap, r.length + 1 + k, gnm 0, [], [], wr0, false⟩⟩) :
    ∀ ρ a w Q, Pre P ρ s.tmps s.hp a w → Post P ρ s.hp w e ⟨tmo, ⟨hp, s.hp.nxt + k, s.hp.hi, rest, ob, addAll wr s.hp.wr, auto⟩⟩ Q → (Code.loop body).wp P Q a w := by
  intro ρ a w Q pre post
  unfold loopIn at hin0
  split at hin0
  case h_2 => cases hin0
  rename_i la rp hla hrp
  split at hin0
  case h_2 => cases hin0
  rename_i lh hlh hall hnd hgb
  cases hin0
  unfold loopOut at hout0
  split at hout0
  case h_2 => cases hout0
  rename_i tmo' hp' wr' hk htm hout hwr
  cases hout0
  obtain ⟨hr, hf, hg⟩ : HeapRep P ρ s.hp.heap w ∧ Fresh ρ s.hp.nxt s.hp.hi ∧ GOk ρ := ⟨pre.rep, pre.fresh, pre.glob⟩
  simp only [Bool.and_eq_true] at hk hgb
  have hhi : s.hp.hi ≤ gnm 0 := Nat.le_of_ble_eq_true hgb.2
  have hng := notGlobB_get r hgb.1
  have hnd := nodupB_nd r hnd
  have hk2 : r.length + 1 + k ≤ gnm 0 := Nat.le_of_ble_eq_true hk.1
  have hnx : s.hp.nxt + k ≤ s.hp.hi := Nat.le_of_ble_eq_true hk.2.1
  have hno := noneAt_get heap hk.2.2
  obtain ⟨hpl, hrp⟩ := takeN_eq p r rp hrp
  let ρl : Ren := fun l => if gnm 0 ≤ l then ρ l else match l with
    | 0 => none
    | m + 1 => match r[m]? with
      | some b => ρ b
      | none => none
  have hρg : ∀ l, gnm 0 ≤ l → ρl l = ρ l := fun l hl => by simp [ρl, hl]
  have hρi : ∀ m b, m + 1 < gnm 0 → r[m]? = some b → ρl (m + 1) = ρ b := fun m b hm hb => by
    have : ¬ gnm 0 ≤ m + 1 := by omega
    simp [ρl, this, hb]
  have hrl : ∀ m b, r[m]? = some b → m < r.length := fun m b hb => (List.getElem?_eq_some_iff.1 hb).1
  have H1 : ∀ n k, toLoc r n = some k → ρl k = ρ n := by
    intro n k hn
    rcases toLoc_spec hn with ⟨a, rfl⟩ | ⟨a, b, c⟩
    · exact hρg _ a
    · have := hrl _ _ c
      have := hρi (k - 1) n (by omega) c
      rw [← this]; congr 1; omega
  obtain ⟨g1, g2⟩ := locHeap_get rp lh hlh
  have hrep : HeapRep P ρl lh w := by
    refine ⟨fun k o' hk => ?_, fun k k2 o o2 l l2 ha hb hne hro hl hl2 hc hc2 => ?_⟩
    · obtain ⟨b, hb, o, q1, q2, q3⟩ := g2 k o' hk
      obtain ⟨l, hl, hob⟩ := hr.1 b o q2
      exact ⟨l, (H1 b k q1).trans hl, (renO_rep H1 q3 hob).1⟩
    · obtain ⟨b, hbm, p, q1, q2, q3⟩ := g2 k o ha
      obtain ⟨b', hbm', p', q1', q2', q3'⟩ := g2 k2 o2 hb
      obtain ⟨x1, hx1, hob1⟩ := hr.1 b p q2
      obtain ⟨x2, hx2, hob2⟩ := hr.1 b' p' q2'
      have e1 := (renO_rep H1 q3 hob1).2
      have e2 := (renO_rep H1 q3' hob2).2
      have hbb : b ≠ b' := fun x => by subst x; rw [q1] at q1'; cases q1'; exact hne rfl
      rw [H1 b k q1] at hl
      rw [H1 b' k2 q1'] at hl2
      exact hr.2 b b' p p' l l2 q2 q2' hbb (by rw [← e1, ← e2]; exact hro) hl hl2 hc hc2
  have hfr : Fresh ρl (r.length + 1) (gnm 0) := by
    intro n h1 h2
    have : ¬ gnm 0 ≤ n := by omega
    cases n with
    | zero => omega
    | succ m =>
      have hm : r[m]? = none := by simp; omega
      simp [ρl, this, hm]
  have hgl : GOk ρl := fun g => by
    obtain ⟨l, hl, q⟩ := hg g
    exact ⟨l, (hρg _ (by unfold gnm; omega)).trans hl, q⟩
  have hrel : RelL ρl la a.tmps.toList := by
    have q := relL_mask keep pre.rel
    obtain ⟨z1, z2⟩ := renL_get _ _ hla
    refine ⟨z1.trans q.1, fun j v' hj => ?_⟩
    obtain ⟨v, hv, hv'⟩ := z2 j v' hj
    obtain ⟨x, hx, hxr⟩ := q.2 j v hv
    exact ⟨x, hx, renV_rel H1 hv' hxr⟩
  refine H ρl a w Q ⟨hrel, pre.defers, hrep, hfr, hgl⟩ (fun ρl' a' w' hrel' hdef st => ?_)
  let ρ' : Ren := fun m => if s.hp.nxt ≤ m ∧ m < s.hp.nxt + k then ρl' (r.length + 1 + (m - s.hp.nxt)) else ρ m
  have hsome : ∀ b l, ρ b = some l → ¬ (s.hp.nxt ≤ b ∧ b < s.hp.nxt + k) := fun b l hb hn => by
    have := hf b hn.1 (by omega); rw [this] at hb; cases hb
  have hle : Le ρ ρ' := fun n l hn => by simp only [ρ']; rw [if_neg (hsome n l hn)]; exact hn
  have hin : ∀ b ∈ r, ∃ o l, get s.hp.heap b = some o ∧ ρ b = some l := fun b hb => by
    obtain ⟨o, q2⟩ := allIn_get r hall b hb
    obtain ⟨l, hl⟩ := hr.loc q2
    exact ⟨o, l, q2, hl⟩
  have H2 : ∀ l b, toOut r s.hp.nxt k l = some b → ρ' b = ρl' l := by
    intro l b hb
    rcases toOut_spec hb with ⟨a, rfl⟩ | ⟨a, m, rfl, hm | ⟨m1, m2, rfl⟩⟩
    · obtain ⟨L, hL, _⟩ := hg (b - gnm 0)
      have eb : gnm (b - gnm 0) = b := by unfold gnm at a ⊢; omega
      rw [eb] at hL
      rw [hle b L hL, st.le b L ((hρg b a).trans hL)]
    · obtain ⟨o, L, _, hL⟩ := hin b (List.mem_of_getElem? hm)
      rw [hle b L hL, st.le (m + 1) L ((hρi m b a hm).trans hL)]
    · simp only [ρ']
      rw [if_pos (by omega)]
      congr 1; omega
  have inj : ∀ i j b, i ≤ r.length + k → j ≤ r.length + k → 1 ≤ i → 1 ≤ j → toOut r s.hp.nxt k i = some b → toOut r s.hp.nxt k j = some b → i = j := by
    intro i j b hi hj hi1 hj1 e1 e2
    rcases toOut_spec e1 with ⟨a, _⟩ | ⟨_, m, rfl, hm⟩
    · omega
    rcases toOut_spec e2 with ⟨a, _⟩ | ⟨_, m', rfl, hm'⟩
    · omega
    rcases hm with hm | ⟨m1, m2, rfl⟩
    · rcases hm' with hm' | ⟨m1', m2', rfl⟩
      · obtain ⟨ha, ha'⟩ := List.getElem?_eq_some_iff.1 hm
        obtain ⟨hb, hb'⟩ := List.getElem?_eq_some_iff.1 hm'
        have := (List.getElem_inj hnd).1 (ha'.trans hb'.symm)
        omega
      · obtain ⟨o, L, _, hL⟩ := hin _ (List.mem_of_getElem? hm)
        exact (hsome _ L hL (by omega)).elim
    · rcases hm' with hm' | ⟨m1', m2', e3⟩
      · obtain ⟨o, L, _, hL⟩ := hin _ (List.mem_of_getElem? hm')
        exact (hsome _ L hL (by omega)).elim
      · omega
  obtain ⟨k1, k2⟩ := outHeapP_get _ hp hout inj
  -- what a local name with an object stands for
  have loc : ∀ m o1, get lh m = some o1 → ∃ b o2, toOut r s.hp.nxt k m = some b ∧ 1 ≤ m ∧ m ≤ p ∧ m ≤ r.length ∧ get s.hp.heap b = some o2 ∧ o1.ro = o2.ro ∧ ρl m = ρ b := by
    intro m o1 hm
    obtain ⟨b, hb, o2, q1, q2, q3⟩ := g2 m o1 hm
    rw [hrp] at hb
    have hbr : b ∈ r := List.mem_of_mem_take hb
    have hbl := hng b hbr
    rcases toLoc_spec q1 with ⟨a, rfl⟩ | ⟨a, c, d⟩
    · omega
    · have hm1 := hrl _ _ d
      refine ⟨b, o2, toOut_old c (by omega) d, c, ?_, by omega, q2, (renO_rep H1 q3 (hr.1 b o2 q2).choose_spec.2).2, H1 b m q1⟩
      obtain ⟨i, hi, hib⟩ := List.mem_take_iff_getElem.1 hb
      obtain ⟨hd1, hd2⟩ := List.getElem?_eq_some_iff.1 d
      have := (List.getElem_inj hnd (h₀ := by omega) (h₁ := hd1)).1 (hib.trans hd2.symm)
      omega
  have wrin : ∀ m ∈ wr0, m < gnm 0 ∧ ∃ b, toOut r s.hp.nxt k m = some b ∧ b ∈ wr := outNames_get _ _ hwr
  have stay : ∀ b o L, (∀ l, 1 ≤ l → l ≤ r.length + k → ¬ (p < l ∧ l ≤ r.length) → toOut r s.hp.nxt k l ≠ some b) → get s.hp.heap b = some o → ρ b = some L → L.cap ≠ 0 → w'.heap[L.blk]? = w.heap[L.blk]? := by
    intro b o L hb hgb hL hc
    obtain ⟨L', hL', hob⟩ := hr.1 b o hgb
    rw [hL] at hL'; cases hL'
    refine st.fr.same L.blk (hob.lt hc) ?_
    rintro ⟨m, hm, o1, L1, y1, y2, y3, y4, y5⟩
    obtain ⟨b1, o2, z1, z2, z3, z33, z4, z5, z6⟩ := loc m o1 y1
    have hne : b1 ≠ b := fun x => by subst x; exact hb m z2 (by omega) (by omega) z1
    rw [z6] at y3
    exact hr.2 b1 b o2 o L1 L z4 hgb hne (by rw [← z5, y2]; rfl) y3 hL y4 hc y5
  have apart : ∀ l o' L1 b2 o2 L2, get heap l = some o' → ρl' l = some L1 → L1.cap ≠ 0 → (∀ l, 1 ≤ l → l ≤ r.length + k → ¬ (p < l ∧ l ≤ r.length) → toOut r s.hp.nxt k l ≠ some b2) → get s.hp.heap b2 = some o2 → ρ b2 = some L2 → L2.cap ≠ 0 →
      (o'.ro && o2.ro) = false → L1.blk ≠ L2.blk := by
    intro l o' L1 b2 o2 L2 hgl hL1 hc1 hb2 hg2 hL2 hc2 hro heq
    obtain ⟨L', hL', hob⟩ := hr.1 b2 o2 hg2
    rw [hL2] at hL'; cases hL'
    have hlt := hob.lt hc2
    obtain ⟨m, o3, L3, y1, y2, y3, y4, y5, y6⟩ := st.own l o' L1 hgl hL1 hc1 (by rw [heq]; exact hlt)
    obtain ⟨b1, o4, z1, z2, z3, z33, z4, z5, z6⟩ := loc m o3 y1
    have hne : b1 ≠ b2 := fun x => by subst x; exact hb2 m z2 (by omega) (by omega) z1
    rw [z6] at y3
    exact hr.2 b1 b2 o4 o2 L3 L2 z4 hg2 hne (by rw [← z5, y2]; exact hro) y3 hL2 y4 hc2 (y5.trans heq)
  have kind : ∀ b o, get hp b = some o → (∃ l o' , 1 ≤ l ∧ l ≤ r.length + k ∧ ¬ (p < l ∧ l ≤ r.length) ∧ toOut r s.hp.nxt k l = some b ∧ get heap l = some o' ∧ renO (toOut r s.hp.nxt k) o' = some o ∧ ∃ L, ρl' l = some L ∧ ObjRep P ρ' w' L o ∧ o.ro = o'.ro) ∨
      ((∀ l, 1 ≤ l → l ≤ r.length + k → ¬ (p < l ∧ l ≤ r.length) → toOut r s.hp.nxt k l ≠ some b) ∧ get s.hp.heap b = some o) := by
    intro b o hb
    by_cases hex : ∃ l, 1 ≤ l ∧ l ≤ r.length + k ∧ ¬ (p < l ∧ l ≤ r.length) ∧ toOut r s.hp.nxt k l = some b
    · obtain ⟨l, h1, h2, h4, h3⟩ := hex
      obtain ⟨c, hc, q⟩ := k1 l h1 h2 h4
      rw [h3] at hc; cases hc
      obtain ⟨o', q1, q2⟩ := q o hb
      obtain ⟨L, hL, hob⟩ := st.rep.1 l o' q1
      obtain ⟨z1, z2⟩ := renO_rep H2 q2 hob
      exact .inl ⟨l, o', h1, h2, h4, h3, q1, q2, L, hL, z1, z2⟩
    · have hno : ∀ l, 1 ≤ l → l ≤ r.length + k → ¬ (p < l ∧ l ≤ r.length) → toOut r s.hp.nxt k l ≠ some b := fun l h1 h2 h4 h3 => hex ⟨l, h1, h2, h4, h3⟩
      exact .inr ⟨hno, (k2 b hno) ▸ hb⟩
  refine post ρ' a' w' ?_ hdef ⟨hle, fun n l h1 h2 => ?_, ⟨fun b o hb => ?_, fun b c o1 o2 L1 L2 hb hc hne hro hL1 hL2 hc1 hc2 => ?_⟩, ⟨st.fr.size, fun b hb hn => st.fr.same b hb ?_, st.fr.tape, st.fr.os, st.fr.output⟩, fun b o L hb hL hc hlt => ?_⟩
  · obtain ⟨z1, z2⟩ := renL_get _ _ htm
    refine ⟨z1.trans hrel'.1, fun j v' hj => ?_⟩
    obtain ⟨v, hv, hv'⟩ := z2 j v' hj
    obtain ⟨x, hx, hxr⟩ := hrel'.2 j v hv
    exact ⟨x, hx, renV_rel H2 hv' hxr⟩
  · simp only [ρ'] at h2
    split at h2
    · rename_i hh; exact hh
    · rw [h1] at h2; cases h2
  · rcases kind b o hb with ⟨l, o', a1, a2, a0, a3, a4, a5, L, a6, a7, _⟩ | ⟨a1, a2⟩
    · exact ⟨L, (H2 l b a3).trans a6, a7⟩
    · obtain ⟨L, hL, hob⟩ := hr.1 b o a2
      exact ⟨L, hle b L hL, hob.keep hle (fun hc => stay b o L a1 a2 hL hc)⟩
  · rcases kind b o1 hb with ⟨l, o', a1, a2, a0, a3, a4, a5, L, a6, a7, a8⟩ | ⟨a1, a2⟩
    · rw [H2 l b a3, a6] at hL1; cases hL1
      rcases kind c o2 hc with ⟨l', o'', b1, b2, b0, b3, b4, b5, L', b6, b7, b8⟩ | ⟨b1, b2⟩
      · rw [H2 l' c b3, b6] at hL2; cases hL2
        have hll : l ≠ l' := fun x => by subst x; rw [a3] at b3; cases b3; exact hne rfl
        exact st.rep.2 l l' o' o'' _ _ a4 b4 hll (by rw [← a8, ← b8]; exact hro) a6 b6 hc1 hc2
      · obtain ⟨L', hL', _⟩ := hr.1 c o2 b2
        rw [hle c L' hL'] at hL2; cases hL2
        exact apart l o' _ c o2 _ a4 a6 hc1 b1 b2 hL' hc2 (by rw [← a8]; exact hro)
    · obtain ⟨L, hL, _⟩ := hr.1 b o1 a2
      rw [hle b L hL] at hL1; cases hL1
      rcases kind c o2 hc with ⟨l', o'', b1, b2, b0, b3, b4, b5, L', b6, b7, b8⟩ | ⟨b1, b2⟩
      · rw [H2 l' c b3, b6] at hL2; cases hL2
        exact (apart l' o'' _ b o1 _ b4 b6 hc2 a1 a2 hL hc1 (by rw [← b8, Bool.and_comm]; exact hro)).symm
      · obtain ⟨L', hL', _⟩ := hr.1 c o2 b2
        rw [hle c L' hL'] at hL2; cases hL2
        exact hr.2 b c o1 o2 _ _ a2 b2 hne hro hL hL' hc1 hc2
  · rintro ⟨m, hm, o1, L1, y1, y2, y3, y4, y5⟩
    obtain ⟨hlt, c, hc, hcw⟩ := wrin m hm
    obtain ⟨b1, o2, z1, z2, z3, z33, z4, z5, z6⟩ := loc m o1 y1
    rw [hc] at z1; cases z1
    rw [z6] at y3
    exact hn ⟨c, mem_addAll.2 (.inl hcw), o2, L1, z4, z5.symm.trans y2, y3, y4, y5⟩
  · rcases kind b o hb with ⟨l, o', a1, a2, a0, a3, a4, a5, L', a6, a7, a8⟩ | ⟨a1, a2⟩
    · rw [H2 l b a3, a6] at hL; cases hL
      obtain ⟨m, o3, L3, y1, y2, y3, y4, y5, y6⟩ := st.own l o' _ a4 a6 hc hlt
      obtain ⟨b1, o4, z1, z2, z3, z33, z4, z5, z6⟩ := loc m o3 y1
      rw [z6] at y3
      refine ⟨b1, o4, L3, z4, (z5.symm.trans y2).trans a8.symm, y3, y4, y5, ?_⟩
      rcases y6 with rfl | y6
      · rw [a3] at z1; cases z1; exact .inl rfl
      · obtain ⟨_, c, hc', hcw⟩ := wrin m y6
        rw [hc'] at z1; cases z1
        exact .inr (mem_addAll.2 (.inl hcw))
    · obtain ⟨L', hL', _⟩ := hr.1 b o a2
      rw [hle b L' hL'] at hL; cases hL
      exact ⟨b, o, _, a2, rfl, hL', hc, rfl, .inl rfl⟩
end Go.Ev
