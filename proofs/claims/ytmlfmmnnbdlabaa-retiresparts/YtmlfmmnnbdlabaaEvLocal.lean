/-
  Contracts over a local heap with names of their own: one contract of a function serves at every call.
-/
import Derived.Test.YtmlfmmnnbdlabaaEvRenOk
import Derived.Test.YtmlfmmnnbdlabaaEvDraw
import Derived.Test.YtmlfmmnnbdlabaaEvMain
import Derived.Test.YtmlfmmnnbdlabaaEvCast
set_option linter.unusedSimpArgs false
set_option linter.unusedVariables false
namespace Go.Ev

/-! ### local names -/
/-- What a contract says over a local heap of k blocks: the answer, the heap behind it, how many new blocks, which were written. -/
structure LR where
  k : Nat
  v : AV
  heap : List (Nat × AO)
  n : Nat
  wr : List Nat
  ob : List Prop

def applyLocN (spec : List AV → List (Nat × AO) → Option LR) (args : List AV) (h : Hp) (names : List Nat) : Option (AV × Hp) :=
  match revN (reach h.heap 10000 names []) [] with
  | r0 => match notGlob r0 with
    | r => match renL (toLoc r) args, locHeap (toLoc r) h.heap r0, Nat.ble h.hi (gnm 0), nodupB r with
      | some la, some lh, true, true => match spec la lh with
        | some R => match Nat.beq R.k r.length && Nat.ble (r.length + 1 + R.n) (gnm 0), Nat.ble (h.nxt + R.n) h.hi, outHeap (toOut r h.nxt R.n) R.heap h.heap (r.length + R.n), outNames (toOut r h.nxt R.n) R.wr, renV (toOut r h.nxt R.n) R.v with
          | true, true, some hp, some wr, some v => some (v, ⟨hp, h.nxt + R.n, h.hi, h.hints, R.ob ++ h.ob, addAll wr h.wr, h.auto⟩)
          | _, _, _, _, _ => none
        | none => none
      | _, _, _, _ => none

/-- A contract of what the arguments reach; where it does not fit, of that and of the package-level variables that are known. -/
def applyLoc (spec : List AV → List (Nat × AO) → Option LR) (args : List AV) (h : Hp) : Option (AV × Hp) := match applyLocN spec args h (namesL args) with
  | some x => some x
  | none => match addGlobs h.heap [] with
    | [] => none
    | _ => applyLocN spec args h (addGlobs h.heap (namesL args))

def LocOk (P : Program) (f : FuncId) (la : List AV) (lh : List (Nat × AO)) (R : LR) : Prop :=
  ∀ ρ w, (∀ p ∈ R.ob, p) → HeapRep P ρ lh w → Fresh ρ (R.k + 1) (gnm 0) → GOk ρ → ∀ xs, denL ρ la = some xs →
    Calls P f xs.toArray w fun e w' => ∃ x ρ', e = .returned x ∧ relS ρ' R.v x ∧ Step P ρ ⟨lh, R.k + 1, gnm 0, [], [], [], false⟩ w ρ' ⟨R.heap, R.k + 1 + R.n, gnm 0, [], [], R.wr, false⟩ w'

theorem applyLocN_ok {P : Program} {f : FuncId} {spec : List AV → List (Nat × AO) → Option LR} (H : ∀ la lh R, spec la lh = some R → LocOk P f la lh R) {args : List AV} {h h' : Hp} {v : AV} {names : List Nat} (e : applyLocN spec args h names = some (v, h')) : CaOk P f args h v h' := by
  unfold applyLocN at e
  generalize hr0 : revN (reach h.heap 10000 names []) [] = r0 at e
  simp only at e
  generalize hrr : notGlob r0 = r at e
  split at e
  case h_2 => cases e
  rename_i la lh hla hlh hhi hnd
  split at e
  case h_2 => cases e
  rename_i R hR
  split at e
  case h_2 => cases e
  rename_i hp wr vo hk hnx hout hwr hvo
  cases e
  have hhi : h.hi ≤ gnm 0 := Nat.le_of_ble_eq_true hhi
  have hnd := nodupB_nd r hnd
  simp only [Bool.and_eq_true] at hk
  have hk1 := Nat.eq_of_beq_eq_true hk.1
  have hk2 : r.length + 1 + R.n ≤ gnm 0 := Nat.le_of_ble_eq_true hk.2
  have hnx : h.nxt + R.n ≤ h.hi := Nat.le_of_ble_eq_true hnx
  refine ⟨⟨fun p hp => List.mem_append_right _ hp, by simp, rfl, fun n hn => mem_addAll.2 (.inr hn)⟩, fun ho ρ w hr hf hg xs hx => ?_⟩
  let ρl : Ren := fun l => if gnm 0 ≤ l then ρ l else match l with
    | 0 => none
    | m + 1 => match r[m]? with
      | some b => ρ b
      | none => none
  have hρg : ∀ l, gnm 0 ≤ l → ρl l = ρ l := fun l hl => by simp [ρl, hl]
  have hρi : ∀ m b, m + 1 < gnm 0 → r[m]? = some b → ρl (m + 1) = ρ b := fun m b hm hb => by
    have : ¬ gnm 0 ≤ m + 1 := by omega
    simp [ρl, this, hb]
  have hrl : ∀ m b, r[m]? = some b → m < r.length := fun m b hb => (List.getElem?_eq_some_iff.1 hb).1
  have H1 : ∀ n k, toLoc r n = some k → ρl k = ρ n := by
    intro n k hn
    rcases toLoc_spec hn with ⟨a, rfl⟩ | ⟨a, b, c⟩
    · exact hρg _ a
    · have := hrl _ _ c
      have := hρi (k - 1) n (by omega) c
      rw [← this]; congr 1; omega
  obtain ⟨g1, g2⟩ := locHeap_get r0 lh hlh
  have hrep : HeapRep P ρl lh w := by
    refine ⟨fun k o' hk => ?_, fun k k2 o o2 l l2 ha hb hne hro hl hl2 hc hc2 => ?_⟩
    · obtain ⟨b, hb, o, q1, q2, q3⟩ := g2 k o' hk
      obtain ⟨l, hl, hob⟩ := hr.1 b o q2
      exact ⟨l, (H1 b k q1).trans hl, (renO_rep H1 q3 hob).1⟩
    · obtain ⟨b, hbm, p, q1, q2, q3⟩ := g2 k o ha
      obtain ⟨b', hbm', p', q1', q2', q3'⟩ := g2 k2 o2 hb
      obtain ⟨x1, hx1, hob1⟩ := hr.1 b p q2
      obtain ⟨x2, hx2, hob2⟩ := hr.1 b' p' q2'
      have e1 := (renO_rep H1 q3 hob1).2
      have e2 := (renO_rep H1 q3' hob2).2
      have hbb : b ≠ b' := fun x => by subst x; rw [q1] at q1'; cases q1'; exact hne rfl
      rw [H1 b k q1] at hl
      rw [H1 b' k2 q1'] at hl2
      exact hr.2 b b' p p' l l2 q2 q2' hbb (by rw [← e1, ← e2]; exact hro) hl hl2 hc hc2
  have hfr : Fresh ρl (R.k + 1) (gnm 0) := by
    intro n h1 h2
    have : ¬ gnm 0 ≤ n := by omega
    cases n with
    | zero => omega
    | succ m =>
      have hm : r[m]? = none := by simp; omega
      simp [ρl, this, hm]
  have hgl : GOk ρl := fun g => by
    obtain ⟨l, hl, q⟩ := hg g
    exact ⟨l, (hρg _ (by unfold gnm; omega)).trans hl, q⟩
  have := H la lh R hR ρl w (fun p hp => ho p (List.mem_append_left _ hp)) hrep hfr hgl xs ((renL_den H1 args la hla).trans hx)
  refine this.mono fun ee w' ⟨x, ρl', he, hxv, st⟩ => ?_
  let ρ' : Ren := fun m => if h.nxt ≤ m ∧ m < h.nxt + R.n then ρl' (r.length + 1 + (m - h.nxt)) else ρ m
  have hsome : ∀ b l, ρ b = some l → ¬ (h.nxt ≤ b ∧ b < h.nxt + R.n) := fun b l hb hn => by
    have := hf b hn.1 (by omega); rw [this] at hb; cases hb
  have hle : Le ρ ρ' := fun n l hn => by simp only [ρ']; rw [if_neg (hsome n l hn)]; exact hn
  have hin : ∀ b ∈ r, ∃ o l, get h.heap b = some o ∧ ρ b = some l := fun b hb => by
    rw [← hrr] at hb
    obtain ⟨k, o, o', _, q2, _⟩ := g1 b ((notGlob_mem r0 b).1 hb).1
    obtain ⟨l, hl⟩ := hr.loc q2
    exact ⟨o, l, q2, hl⟩
  have H2 : ∀ l b, toOut r h.nxt R.n l = some b → ρ' b = ρl' l := by
    intro l b hb
    rcases toOut_spec hb with ⟨a, rfl⟩ | ⟨a, m, rfl, hm | ⟨m1, m2, rfl⟩⟩
    · obtain ⟨L, hL, _⟩ := hg (b - gnm 0)
      have eb : gnm (b - gnm 0) = b := by unfold gnm at a ⊢; omega
      rw [eb] at hL
      rw [hle b L hL, st.le b L ((hρg b a).trans hL)]
    · obtain ⟨o, L, _, hL⟩ := hin b (List.mem_of_getElem? hm)
      rw [hle b L hL, st.le (m + 1) L ((hρi m b a hm).trans hL)]
    · simp only [ρ']
      rw [if_pos (by omega)]
      congr 1; omega
  have inj : ∀ i j b, i ≤ r.length + R.n → j ≤ r.length + R.n → 1 ≤ i → 1 ≤ j → toOut r h.nxt R.n i = some b → toOut r h.nxt R.n j = some b → i = j := by
    intro i j b hi hj hi1 hj1 e1 e2
    rcases toOut_spec e1 with ⟨a, _⟩ | ⟨_, m, rfl, hm⟩
    · omega
    rcases toOut_spec e2 with ⟨a, _⟩ | ⟨_, m', rfl, hm'⟩
    · omega
    rcases hm with hm | ⟨m1, m2, rfl⟩
    · rcases hm' with hm' | ⟨m1', m2', rfl⟩
      · obtain ⟨ha, ha'⟩ := List.getElem?_eq_some_iff.1 hm
        obtain ⟨hb, hb'⟩ := List.getElem?_eq_some_iff.1 hm'
        have := (List.getElem_inj hnd).1 (ha'.trans hb'.symm)
        omega
      · obtain ⟨o, L, _, hL⟩ := hin _ (List.mem_of_getElem? hm)
        exact (hsome _ L hL (by omega)).elim
    · rcases hm' with hm' | ⟨m1', m2', e3⟩
      · obtain ⟨o, L, _, hL⟩ := hin _ (List.mem_of_getElem? hm')
        exact (hsome _ L hL (by omega)).elim
      · omega
  obtain ⟨k1, k2⟩ := outHeap_get _ hp hout inj
  -- what a local name with an object stands for
  have loc : ∀ m o1, get lh m = some o1 → m < gnm 0 → ∃ b o2, toOut r h.nxt R.n m = some b ∧ 1 ≤ m ∧ m ≤ r.length ∧ get h.heap b = some o2 ∧ o1.ro = o2.ro ∧ ρl m = ρ b := by
    intro m o1 hm hlt
    obtain ⟨b, hb, o2, q1, q2, q3⟩ := g2 m o1 hm
    obtain ⟨L, hL, hob⟩ := hr.1 b o2 q2
    rcases toLoc_spec q1 with ⟨a, rfl⟩ | ⟨a, c, d⟩
    · omega
    · exact ⟨b, o2, toOut_old c hlt d, c, by have := hrl _ _ d; omega, q2, (renO_rep H1 q3 hob).2, H1 b m q1⟩
  have wrin : ∀ m ∈ R.wr, m < gnm 0 ∧ ∃ b, toOut r h.nxt R.n m = some b ∧ b ∈ wr := outNames_get _ _ hwr
  have stay : ∀ b o L, (∀ l, 1 ≤ l → l ≤ r.length + R.n → toOut r h.nxt R.n l ≠ some b) → get h.heap b = some o → ρ b = some L → L.cap ≠ 0 → w'.heap[L.blk]? = w.heap[L.blk]? := by
    intro b o L hb hgb hL hc
    obtain ⟨L', hL', hob⟩ := hr.1 b o hgb
    rw [hL] at hL'; cases hL'
    refine st.fr.same L.blk (hob.lt hc) ?_
    rintro ⟨m, hm, o1, L1, y1, y2, y3, y4, y5⟩
    obtain ⟨hlt, _⟩ := wrin m hm
    obtain ⟨b1, o2, z1, z2, z3, z4, z5, z6⟩ := loc m o1 y1 hlt
    have hne : b1 ≠ b := fun x => by subst x; exact hb m z2 (by omega) z1
    rw [z6] at y3
    exact hr.2 b1 b o2 o L1 L z4 hgb hne (by rw [← z5, y2]; rfl) y3 hL y4 hc y5
  have apart : ∀ l o' L1 b2 o2 L2, 1 ≤ l → l ≤ r.length + R.n → get R.heap l = some o' → ρl' l = some L1 → L1.cap ≠ 0 → (∀ l, 1 ≤ l → l ≤ r.length + R.n → toOut r h.nxt R.n l ≠ some b2) → get h.heap b2 = some o2 → ρ b2 = some L2 → L2.cap ≠ 0 →
      (o'.ro && o2.ro) = false → L1.blk ≠ L2.blk := by
    intro l o' L1 b2 o2 L2 hl1 hl2 hgl hL1 hc1 hb2 hg2 hL2 hc2 hro heq
    obtain ⟨L', hL', hob⟩ := hr.1 b2 o2 hg2
    rw [hL2] at hL'; cases hL'
    have hlt := hob.lt hc2
    obtain ⟨m, o3, L3, y1, y2, y3, y4, y5, y6⟩ := st.own l o' L1 hgl hL1 hc1 (by rw [heq]; exact hlt)
    have hm : m < gnm 0 := by
      rcases y6 with rfl | y6
      · omega
      · exact (wrin m y6).1
    obtain ⟨b1, o4, z1, z2, z3, z4, z5, z6⟩ := loc m o3 y1 hm
    have hne : b1 ≠ b2 := fun x => by subst x; exact hb2 m z2 (by omega) z1
    rw [z6] at y3
    exact hr.2 b1 b2 o4 o2 L3 L2 z4 hg2 hne (by rw [← z5, y2]; exact hro) y3 hL2 y4 hc2 (y5.trans heq)
  have kind : ∀ b o, get hp b = some o → (∃ l o' , 1 ≤ l ∧ l ≤ r.length + R.n ∧ toOut r h.nxt R.n l = some b ∧ get R.heap l = some o' ∧ renO (toOut r h.nxt R.n) o' = some o ∧ ∃ L, ρl' l = some L ∧ ObjRep P ρ' w' L o ∧ o.ro = o'.ro) ∨
      ((∀ l, 1 ≤ l → l ≤ r.length + R.n → toOut r h.nxt R.n l ≠ some b) ∧ get h.heap b = some o) := by
    intro b o hb
    by_cases hex : ∃ l, 1 ≤ l ∧ l ≤ r.length + R.n ∧ toOut r h.nxt R.n l = some b
    · obtain ⟨l, h1, h2, h3⟩ := hex
      obtain ⟨c, hc, q⟩ := k1 l h1 h2
      rw [h3] at hc; cases hc
      obtain ⟨o', q1, q2⟩ := q o hb
      obtain ⟨L, hL, hob⟩ := st.rep.1 l o' q1
      obtain ⟨z1, z2⟩ := renO_rep H2 q2 hob
      exact .inl ⟨l, o', h1, h2, h3, q1, q2, L, hL, z1, z2⟩
    · have hno : ∀ l, 1 ≤ l → l ≤ r.length + R.n → toOut r h.nxt R.n l ≠ some b := fun l h1 h2 h3 => hex ⟨l, h1, h2, h3⟩
      exact .inr ⟨hno, (k2 b hno) ▸ hb⟩
  refine ⟨x, ρ', he, renV_rel H2 hvo hxv, hle, fun n l h1 h2 => ?_, ⟨fun b o hb => ?_, fun b c o1 o2 L1 L2 hb hc hne hro hL1 hL2 hc1 hc2 => ?_⟩, ⟨st.fr.size, fun b hb hn => st.fr.same b hb ?_, st.fr.tape, st.fr.os, st.fr.output⟩, fun b o L hb hL hc hlt => ?_⟩
  · simp only [ρ'] at h2
    split at h2
    · rename_i hh; exact hh
    · rw [h1] at h2; cases h2
  · rcases kind b o hb with ⟨l, o', a1, a2, a3, a4, a5, L, a6, a7, _⟩ | ⟨a1, a2⟩
    · exact ⟨L, (H2 l b a3).trans a6, a7⟩
    · obtain ⟨L, hL, hob⟩ := hr.1 b o a2
      exact ⟨L, hle b L hL, hob.keep hle (fun hc => stay b o L a1 a2 hL hc)⟩
  · rcases kind b o1 hb with ⟨l, o', a1, a2, a3, a4, a5, L, a6, a7, a8⟩ | ⟨a1, a2⟩
    · rw [H2 l b a3, a6] at hL1; cases hL1
      rcases kind c o2 hc with ⟨l', o'', b1, b2, b3, b4, b5, L', b6, b7, b8⟩ | ⟨b1, b2⟩
      · rw [H2 l' c b3, b6] at hL2; cases hL2
        have hll : l ≠ l' := fun x => by subst x; rw [a3] at b3; cases b3; exact hne rfl
        exact st.rep.2 l l' o' o'' _ _ a4 b4 hll (by rw [← a8, ← b8]; exact hro) a6 b6 hc1 hc2
      · obtain ⟨L', hL', _⟩ := hr.1 c o2 b2
        rw [hle c L' hL'] at hL2; cases hL2
        exact apart l o' _ c o2 _ a1 a2 a4 a6 hc1 b1 b2 hL' hc2 (by rw [← a8]; exact hro)
    · obtain ⟨L, hL, _⟩ := hr.1 b o1 a2
      rw [hle b L hL] at hL1; cases hL1
      rcases kind c o2 hc with ⟨l', o'', b1, b2, b3, b4, b5, L', b6, b7, b8⟩ | ⟨b1, b2⟩
      · rw [H2 l' c b3, b6] at hL2; cases hL2
        exact (apart l' o'' _ b o1 _ b1 b2 b4 b6 hc2 a1 a2 hL hc1 (by rw [← b8, Bool.and_comm]; exact hro)).symm
      · obtain ⟨L', hL', _⟩ := hr.1 c o2 b2
        rw [hle c L' hL'] at hL2; cases hL2
        exact hr.2 b c o1 o2 _ _ a2 b2 hne hro hL hL' hc1 hc2
  · rintro ⟨m, hm, o1, L1, y1, y2, y3, y4, y5⟩
    obtain ⟨hlt, c, hc, hcw⟩ := wrin m hm
    obtain ⟨b1, o2, z1, z2, z3, z4, z5, z6⟩ := loc m o1 y1 hlt
    rw [hc] at z1; cases z1
    rw [z6] at y3
    exact hn ⟨c, mem_addAll.2 (.inl hcw), o2, L1, z4, z5.symm.trans y2, y3, y4, y5⟩
  · rcases kind b o hb with ⟨l, o', a1, a2, a3, a4, a5, L', a6, a7, a8⟩ | ⟨a1, a2⟩
    · rw [H2 l b a3, a6] at hL; cases hL
      obtain ⟨m, o3, L3, y1, y2, y3, y4, y5, y6⟩ := st.own l o' _ a4 a6 hc hlt
      have hm : m < gnm 0 := by
        rcases y6 with rfl | y6
        · omega
        · exact (wrin m y6).1
      obtain ⟨b1, o4, z1, z2, z3, z4, z5, z6⟩ := loc m o3 y1 hm
      rw [z6] at y3
      refine ⟨b1, o4, L3, z4, (z5.symm.trans y2).trans a8.symm, y3, y4, y5, ?_⟩
      rcases y6 with rfl | y6
      · rw [a3] at z1; cases z1; exact .inl rfl
      · obtain ⟨_, c, hc', hcw⟩ := wrin m y6
        rw [hc'] at z1; cases z1
        exact .inr (mem_addAll.2 (.inl hcw))
    · obtain ⟨L', hL', _⟩ := hr.1 b o a2
      rw [hle b L' hL'] at hL; cases hL
      exact ⟨b, o, _, a2, rfl, hL', hc, rfl, .inl rfl⟩

theorem applyLoc_ok {P : Program} {f : FuncId} {spec : List AV → List (Nat × AO) → Option LR} (H : ∀ la lh R, spec la lh = some R → LocOk P f la lh R) {args : List AV} {h h' : Hp} {v : AV} (e : applyLoc spec args h = some (v, h')) : CaOk P f args h v h' := by
  unfold applyLoc at e
  split at e
  · rename_i x hx
    cases e
    exact applyLocN_ok H hx
  · split at e
    · cases e
    · exact applyLocN_ok H e
end Go.Ev
