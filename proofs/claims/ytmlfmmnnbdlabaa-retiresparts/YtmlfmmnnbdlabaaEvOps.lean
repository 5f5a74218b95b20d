/-
  Stores, new variables, aggregates, addresses: the soundness of the evaluator, third part.
-/
import Derived.Test.YtmlfmmnnbdlabaaEvMem
set_option linter.unusedSimpArgs false
set_option linter.unusedVariables false
namespace Go.Ev

/-! ### one-cell values -/
theorem oneV_cells {x : Value} (h : oneV x = true) : x.cells = #[x] := by
  cases x <;> simp [oneV] at h <;> rfl

theorem oneCell_den {ρ : Ren} {v : AV} {x : Value} (h : v.oneCell = true) (e : den ρ v = some x) : oneV x = true := by
  cases v <;> simp only [den, AV.oneCell] at h e <;> first
    | (cases e; rfl)
    | (cases h; done)
    | skip
  case ptr b i j => obtain ⟨l, _, _, rfl⟩ := den_ptr (ρ := ρ) (b := b) (i := i) (j := j) (by simpa only [den] using e); rfl
  case stamp n =>
    cases hb : ρ n with
    | none => simp [hb] at e
    | some l => simp only [hb] at e; cases e; rfl
  case xs wd b off len c =>
    cases hb : ρ b with
    | none => simp [hb] at e
    | some l =>
      simp only [hb] at e
      cases hn : l.isnil with
      | true => simp [hn] at e
      | false =>
        simp only [hn, Loc.slice] at e
        repeat' split at e
        all_goals first | (cases e; rfl) | cases e
  case ss wd b off len c =>
    cases hb : ρ b with
    | none => simp [hb] at e
    | some l =>
      simp only [hb, Loc.slice] at e
      repeat' split at e
      all_goals first | (cases e; rfl) | cases e
  case map b =>
    cases hb : ρ b with
    | none => simp [hb] at e
    | some l => simp only [hb] at e; cases e; rfl
  case func f l m =>
    cases hl : denL ρ l with
    | none => simp [hl] at e
    | some l' => cases hm : denL ρ m with
      | none => simp [hl, hm] at e
      | some m' => simp only [hl, hm] at e; cases e; rfl
  case iface t v =>
    cases hl : den ρ v with
    | none => simp [hl] at e
    | some l' => simp only [hl] at e; cases e; rfl
  case raw v => cases e; exact h

theorem cells_den {ρ : Ren} {v : AV} {x : Value} (h : v.partOk = true) (e : den ρ v = some x) : denL ρ v.cells = some x.cells.toList ∧ ∀ y ∈ x.cells.toList, oneV y = true := by
  by_cases ha : ∃ l, v = .agg l
  · obtain ⟨l, rfl⟩ := ha
    simp only [den] at e
    cases hl : denL ρ l with
    | none => simp [hl] at e
    | some l' =>
      simp only [hl] at e; cases e
      refine ⟨by simpa [AV.cells, Value.cells] using hl, fun y hy => ?_⟩
      have hy : y ∈ l' := by simpa [Value.cells] using hy
      obtain ⟨k, hk⟩ := List.mem_iff_getElem?.1 hy
      have hlen := denL_length _ _ hl
      have hlt := (List.getElem?_eq_some_iff.1 hk).1
      obtain ⟨y', hy', hd⟩ := denL_get _ _ hl k l[k] (List.getElem?_eq_getElem (by omega))
      rw [hk] at hy'; cases hy'
      exact oneCell_den (allOne_mem h _ (List.getElem_mem _)) hd
  · have hv : v.oneCell = true := by
      cases v <;> first | exact h | exact absurd ⟨_, rfl⟩ ha
    have hc : v.cells = [v] := by
      cases v <;> first | rfl | exact absurd ⟨_, rfl⟩ ha
    have h1 := oneCell_den hv e
    rw [hc, oneV_cells h1]
    exact ⟨by simp [denL, e], by simpa using h1⟩

theorem allOne_part {v : AV} (h : allOne v.cells = true) : v.partOk = true := by
  cases v <;> first
    | exact h
    | (simp only [AV.cells, allOne] at h; split at h <;> first | assumption | cases h)

theorem cellOf_den (ρ : Ren) (v : Value) : den ρ (cellOf v) = some v := by
  unfold cellOf
  split <;> simp [den]

theorem ofVal_den (ρ : Ren) (v : Value) : den ρ (ofVal v) = some v := by
  unfold ofVal
  split
  · rename_i cs
    have : denL ρ (cs.toList.map cellOf) = some cs.toList := denL_of _ _ (by simp) (fun k v hk => by
      rw [List.getElem?_map] at hk
      cases hc : cs.toList[k]? with
      | none => simp [hc] at hk
      | some y => simp [hc] at hk; subst hk; exact ⟨y, rfl, cellOf_den ρ y⟩)
    simp [den, this]
  · exact cellOf_den ρ _

theorem ofVal_known (v : Value) : ofVal v ≠ .top := by
  intro e
  have := ofVal_den (fun _ => none) v
  rw [e] at this; simp [den] at this

/-! ### writing -/
theorem oneV_eq (v : Value) : oneV v = v.oneCell' := by cases v <;> rfl

theorem run_storeCells {P : Program} (blk off : Nat) (t : TypeId) (fr : Nat × Nat) (hf : fr.2 ≤ fr.1) : ∀ (vs : List Value) (i : Nat) (w : World) (c : Array Value), w.heap[blk]? = some (.cells c t fr) →
    (∀ v ∈ vs, oneV v = true) → off + i + vs.length ≤ c.size →
    ∃ w' c', (storeCells ⟨blk, off, none⟩ vs i).run P w = .ok () w' ∧ w'.heap[blk]? = some (.cells c' t fr) ∧ c'.size = c.size ∧
      (∀ k, c'[k]? = if off + i ≤ k ∧ k < off + i + vs.length then vs[k - (off + i)]? else c[k]?) ∧ (∀ b, b ≠ blk → w'.heap[b]? = w.heap[b]?) ∧ w'.heap.size = w.heap.size ∧ w'.tape = w.tape ∧ w'.os = w.os ∧ w'.output = w.output
  | [], i, w, c, hc, _, _ => ⟨w, c, by simp [storeCells], hc, rfl, fun k => by simp; omega, fun _ _ => rfl, rfl, rfl, rfl, rfl⟩
  | v :: r, i, w, c, hc, hv, hlen => by
    simp only [List.length_cons] at hlen
    have hadd : (⟨blk, off, none⟩ : Addr).add i = ⟨blk, off + i, none⟩ := by unfold Addr.add; split <;> simp_all
    have hcell : w.cell? ⟨blk, off + i, none⟩ = some c[off + i] := by
      rw [cell_of_row w blk _ c t fr hc]; exact Array.getElem?_eq_getElem (by omega)
    have hfz : w.frozen? ⟨blk, off + i, none⟩ = false := by
      obtain ⟨lo, hi⟩ := fr
      simp only [World.frozen?, hc]
      simp only at hf
      by_cases h : lo ≤ off + i <;> simp [h] <;> omega
    have hrun : (store ((⟨blk, off, none⟩ : Addr).add i) v).run P w = .ok () (w.setCell ⟨blk, off + i, none⟩ v) := by
      rw [hadd, run_store P w _ v .plain (by rw [← oneV_eq]; exact hv v (List.mem_cons_self ..))]
      simp [hcell, hfz]
    have hw1 : (w.setCell ⟨blk, off + i, none⟩ v).heap[blk]? = some (.cells (c.setIfInBounds (off + i) v) t fr) := by
      simp [World.setCell, Array.getElem?_modify, hc]
    obtain ⟨w', c', h1, h2, h3, h4, h5, h6, h7, h8, h9⟩ := run_storeCells (P := P) blk off t fr hf r (i + 1) (w.setCell ⟨blk, off + i, none⟩ v) _ hw1 (fun x hx => hv x (List.mem_cons_of_mem _ hx)) (by simp; omega)
    refine ⟨w', c', ?_, h2, by rw [h3]; simp, fun k => ?_, fun b hb => ?_, ?_, h7.trans rfl, h8.trans rfl, h9.trans rfl⟩
    · simp only [storeCells, Sem.run_bind, hrun, Result.andThen_ok, h1]
    · rw [h4 k]
      by_cases hk : off + (i + 1) ≤ k ∧ k < off + (i + 1) + r.length
      · rw [if_pos hk, if_pos (by simp only [List.length_cons]; omega)]
        rw [show k - (off + i) = (k - (off + (i + 1))) + 1 by omega, List.getElem?_cons_succ]
      · rw [if_neg hk]
        by_cases hk2 : k = off + i
        · subst hk2
          rw [if_pos (by simp only [List.length_cons]; omega)]
          simp [Array.getElem?_setIfInBounds]; omega
        · rw [if_neg (by simp only [List.length_cons]; omega), Array.getElem?_setIfInBounds_ne (Ne.symm hk2)]
    · rw [h5 b hb]
      exact heap_setCell_other w _ b v hb
    · rw [h6]; simp

theorem splice_length {α : Type} : ∀ (r l : List α) (k : Nat), (splice l k r).length = l.length
  | [], l, k => by simp [splice]
  | x :: r, l, k => by simp [splice, splice_length r, setNth_eq]

theorem splice_get {α : Type} : ∀ (r l : List α) (k j : Nat), (splice l k r)[j]? = if k ≤ j ∧ j < k + r.length ∧ j < l.length then r[j - k]? else l[j]?
  | [], l, k, j => by simp [splice]; omega
  | x :: r, l, k, j => by
    simp only [splice]
    rw [splice_get r, setNth_eq, List.length_set]
    by_cases h : k + 1 ≤ j ∧ j < k + 1 + r.length ∧ j < l.length
    · rw [if_pos h, if_pos (by simp only [List.length_cons]; omega), show j - k = (j - (k + 1)) + 1 by omega, List.getElem?_cons_succ]
    · rw [if_neg h]
      by_cases h2 : k = j
      · subst h2
        by_cases h3 : k < l.length
        · rw [if_pos (by simp only [List.length_cons]; omega)]; simp [h3]
        · rw [if_neg (by omega)]; rw [List.getElem?_eq_none (by simp; omega), List.getElem?_eq_none (by omega)]
      · rw [if_neg (by simp only [List.length_cons]; omega), List.getElem?_set_ne h2]

theorem fits_kind {k : CK} {v : AV} (h : fits k v = true) : kindOk k v := by
  unfold fits at h
  split at h
  · have := of_decide_eq_true h; subst this; exact ⟨_, .inl rfl⟩
  · have := of_decide_eq_true h; subst this; exact ⟨_, .inr rfl⟩
  · exact ⟨_, .inl rfl⟩
  · exact ⟨_, .inr rfl⟩
  · exact h
  · cases h

theorem fitsAll_kind {sh : List CK} : ∀ {l : List AV} {j : Nat}, fitsAll sh j l = true → ∀ (k : Nat) c v, sh[j + k]? = some c → l[k]? = some v → kindOk c v
  | [], j, _, k, c, v, _, hv => by simp at hv
  | x :: r, j, h, k, c, v, hc, hv => by
    simp only [fitsAll] at h
    split at h
    · rename_i k0 hk0
      rw [nth_eq] at hk0
      split at h
      · rename_i hf
        cases k with
        | zero => simp at hv hc; subst hv; rw [hk0] at hc; cases hc; exact fits_kind hf
        | succ k => exact fitsAll_kind h k c v (by rw [← hc]; congr 1; omega) (by simpa using hv)
      · cases h
    · cases h

theorem fitsAll_len {sh : List CK} : ∀ {l : List AV} {j : Nat}, fitsAll sh j l = true → l = [] ∨ j + l.length ≤ sh.length
  | [], j, _ => .inl rfl
  | x :: r, j, h => by
    right
    simp only [fitsAll] at h
    split at h
    · rename_i k0 hk0
      rw [nth_eq] at hk0
      have := (List.getElem?_eq_some_iff.1 hk0).1
      split at h
      · rcases fitsAll_len h with rfl | h'
        · simp; omega
        · simp; omega
      · cases h
    · cases h

theorem put_mono (h : Hp) (b : Nat) (o : AO) : Mono h (h.put b o) := ⟨fun _ x => x, Nat.le_refl _, rfl, fun n hn => mem_add.2 (.inr hn)⟩

/-- The cells of a part of an object are written. -/
theorem storeN_ok {P : Program} {ρ : Ren} {h h' : Hp} {w : World} {b i j : Nat} {vs : List AV} (e : storeN h b i j vs = some h') :
    Mono h h' ∧ (∀ v ∈ vs, v.oneCell = true) ∧ ((∀ p ∈ h'.ob, p) → HeapRep P ρ h.heap w → ∀ l, ρ b = some l → ∀ xs, denL ρ vs = some xs →
      ∃ w', (storeCells ⟨l.blk, l.base + i * l.wid + j, none⟩ xs).run P w = .ok () w' ∧ Step P ρ h w ρ h' w') := by
  unfold storeN at e
  split at e
  · cases e
  rename_i ha
  have hone := allOne_mem ha
  have honeV : ∀ {xs : List Value}, denL ρ vs = some xs → ∀ x ∈ xs, oneV x = true := by
    intro xs hxs x hx
    obtain ⟨k, hk⟩ := List.mem_iff_getElem?.1 hx
    have hlen := denL_length _ _ hxs
    have hlt := (List.getElem?_eq_some_iff.1 hk).1
    obtain ⟨y, hy, hd⟩ := denL_get _ _ hxs k vs[k] (List.getElem?_eq_getElem (by omega))
    rw [hk] at hy; cases hy
    exact oneCell_den (hone _ (List.getElem_mem _)) hd
  split at e
  · rename_i wd cs hg
    split at e
    · rename_i hle
      cases e
      refine ⟨put_mono _ _ _, hone, fun _ hr l hl xs hxs => ?_⟩
      obtain ⟨h0, h1, h2, c, t, fr, hb, hf, hc, hc2, hv⟩ := hr.obj hg hl
      have hle' : i * wd + j + vs.length ≤ cs.length := by simpa using hle
      have hlen := denL_length _ _ hxs
      obtain ⟨w', c', r1, r2, r3, r4, r5, r6, r7, r8, r9⟩ := run_storeCells (P := P) l.blk (l.base + i * l.wid + j) t fr hf xs 0 w c hb (honeV hxs) (by rw [h2]; omega)
      refine ⟨w', r1, put_step hr hg rfl rfl hl h1 r5 (by omega) r7 r8 r9 ?_⟩
      · refine ⟨h0, h1, h2, c', t, fr, r2, hf, by rw [splice_length]; exact hc, by rw [r3]; exact hc2, fun k v hk => ?_⟩
        rw [splice_get] at hk
        rw [r4, h2]
        by_cases hin : i * wd + j ≤ k ∧ k < i * wd + j + vs.length ∧ k < cs.length
        · rw [if_pos hin] at hk
          obtain ⟨x, hx, hd⟩ := denL_get _ _ hxs _ v hk
          refine ⟨x, ?_, .inr hd⟩
          rw [if_pos (by omega)]
          rw [← hx]; congr 1; omega
        · rw [if_neg hin] at hk
          have : k < cs.length := (List.getElem?_eq_some_iff.1 hk).1
          rw [if_neg (by omega)]
          exact hv k v hk
    · cases e
  · rename_i wd sh ro len f hg
    split at e
    · rename_i hro hfit hle
      split at e
      · rename_i h1 hn
        cases e
        obtain ⟨q1, o1⟩ := need_qt hn
        refine ⟨q1.mono.trans (put_mono _ _ _), hone, fun ho hr l hl xs hxs => ?_⟩
        have hi : i < len := by have := o1 ho; simpa [Nat.blt_eq] using this
        obtain ⟨g1, g2, g3, g4, g5⟩ := hr.obj hg hl
        have hcap : l.cap ≠ 0 := by omega
        obtain ⟨c, t, fr, hb, hf, hc2, hv⟩ := g5 hcap
        have hlen := denL_length _ _ hxs
        have hle' : j + vs.length ≤ wd := by simpa using hle
        have hmul : i * wd + wd ≤ l.cap * wd := by
          have : (i + 1) * wd ≤ l.cap * wd := Nat.mul_le_mul_right wd (by omega)
          rwa [Nat.succ_mul] at this
        obtain ⟨w', c', r1, r2, r3, r4, r5, r6, r7, r8, r9⟩ := run_storeCells (P := P) l.blk (l.base + i * l.wid + j) t fr (hf rfl) xs 0 w c hb (honeV hxs) (by rw [g1]; omega)
        have hput : ObjRep P ρ w' l (.arr wd sh false len (upd f i j vs)) := by
          refine ⟨g1, g2, g3, g4, fun _ => ⟨c', t, fr, r2, hf, by rw [r3]; exact hc2, fun i' hi' k ck hk => ?_⟩⟩
          have hkw : k < wd := by have := (List.getElem?_eq_some_iff.1 hk).1; omega
          obtain ⟨a1, x, a2, a3⟩ := hv i' hi' k ck hk
          rw [r4, g1]
          simp only [upd]
          by_cases hii : i' = i
          · subst hii
            rw [if_pos rfl]
            by_cases hjk : j ≤ k
            · rw [if_pos hjk, nth_eq]
              by_cases hin : k - j < vs.length
              · rw [List.getElem?_eq_getElem hin]
                obtain ⟨y, hy, hd⟩ := denL_get _ _ hxs (k - j) _ (List.getElem?_eq_getElem hin)
                refine ⟨fitsAll_kind hfit (k - j) ck _ (by rw [← hk]; congr 1; omega) (List.getElem?_eq_getElem hin), y, ?_, hd⟩
                rw [if_pos (by omega), ← hy]; congr 1; omega
              · rw [List.getElem?_eq_none (by omega)]
                exact ⟨a1, x, by rw [if_neg (by omega)]; exact a2, a3⟩
            · rw [if_neg hjk]
              exact ⟨a1, x, by rw [if_neg (by omega)]; exact a2, a3⟩
          · rw [if_neg hii]
            refine ⟨a1, x, ?_, a3⟩
            rw [if_neg ?_]
            · exact a2
            · intro hcon
              rcases Nat.lt_or_gt_of_ne hii with hlt | hgt
              · have : (i' + 1) * wd ≤ i * wd := Nat.mul_le_mul_right wd (by omega)
                rw [Nat.succ_mul] at this
                omega
              · have : (i + 1) * wd ≤ i' * wd := Nat.mul_le_mul_right wd (by omega)
                rw [Nat.succ_mul] at this
                omega
        have hr1 : HeapRep P ρ h1.heap w := by rw [q1.heap]; exact hr
        exact ⟨w', r1, (Step.refl hr q1.heap).trans (put_step hr1 (by rw [q1.heap]; exact hg) rfl rfl hl hcap r5 (by omega) r7 r8 r9 hput) q1.mono (put_mono _ _ _)⟩
      · cases e
    · cases e
  · cases e

theorem storeA_ok {P : Program} {ρ : Ren} {h h' : Hp} {w : World} {t : TypeId} {a v : AV} (e : storeA P t a v h = some h') :
    Mono h h' ∧ ((∀ p ∈ h'.ob, p) → HeapRep P ρ h.heap w → ∀ x y, relS ρ a x → relS ρ v y → ∃ w', (Instr.storeAt t x y).run P w = .ok () w' ∧ Step P ρ h w ρ h' w') := by
  unfold storeA at e
  split at e
  · rename_i b i j n hn
    split at e
    · rename_i hbeq
      obtain ⟨m, one, o⟩ := storeN_ok (P := P) (ρ := ρ) (w := w) e
      refine ⟨m, fun ho hr x y hx hy => ?_⟩
      obtain ⟨L, hL, hnil, rfl⟩ := den_ptr (relS_den hx (by simp))
      have hp : v.partOk = true := by
        have : allOne v.cells = true := by
          unfold storeN at e
          split at e
          · cases e
          · assumption
        exact allOne_part this
      have hvt : v ≠ .top := by intro e; subst e; simp [AV.partOk, AV.oneCell] at hp
      obtain ⟨hc, _⟩ := cells_den hp (relS_den hy hvt)
      obtain ⟨w', r1, r2⟩ := o ho hr L hL _ hc
      refine ⟨w', ?_, r2⟩
      have hsz : y.cells.size = n := by
        have := denL_length _ _ hc
        have h2 := Nat.eq_of_beq_eq_true hbeq
        simp at this; omega
      simp only [Instr.storeAt, Instr.sureAddr, pure_bind, storeVar, Sem.run_bind, run_sizeOf hn, Result.andThen_ok, hsz]
      simp [r1]
    · cases e
  · cases e

/-! ### new variables -/
theorem newA_ok {P : Program} {ρ : Ren} {h h' : Hp} {w : World} {v r : AV} (e : newA v h = some (r, h')) :
    Mono h h' ∧ r ≠ .top ∧ (Fresh ρ h.nxt h.hi → HeapRep P ρ h.heap w → ∀ t x, relS ρ v x → ∃ ρ', (newVar t x).run P w = .ok ⟨w.heap.size, 0, none⟩ (w.alloc (.cells x.cells t)) ∧ den ρ' r = some (.pointer (some ⟨w.heap.size, 0, none⟩)) ∧
      Step P ρ h w ρ' h' (w.alloc (.cells x.cells t))) := by
  unfold newA at e
  split at e
  · rename_i ha
    split at e
    · rename_i n h1 hn
      cases e
      refine ⟨new_mono hn, by simp, fun hf hr t x hx => ?_⟩
      have hp := allOne_part ha
      have hvt : v ≠ .top := by intro e; subst e; simp [AV.partOk, AV.oneCell] at hp
      obtain ⟨hc, _⟩ := cells_den hp (relS_den hx hvt)
      have hlen := denL_length _ _ hc
      let l : Loc := ⟨w.heap.size, 0, v.cells.length, 1, false⟩
      have hρn : ρ n = none := by
        obtain ⟨rfl, hlt, _⟩ := new_spec hn
        exact hf _ (Nat.le_refl _) hlt
      have ho : ObjRep P (ρ.set n l) (w.alloc (.cells x.cells t)) l (.cells v.cells.length v.cells) := by
        refine ⟨rfl, by simp [l], rfl, x.cells, t, (0, 0), heap_alloc_new w _, Nat.le_refl _, by simp [l], by simp [l]; simp at hlen; omega, fun j v' hj => ?_⟩
        obtain ⟨y, hy, hd⟩ := denL_get _ _ hc j v' hj
        exact ⟨y, by simpa [l] using hy, .inr (den_mono (Ren.le_set hρn) _ _ hd)⟩
      obtain ⟨hs, _⟩ := new_step hn hr hf (.cells x.cells t) l rfl ho
      refine ⟨ρ.set n l, ?_, ?_, hs⟩
      · simp [newVar, newRow]
      · simp [den, Ren.set_same, l]
    · cases e
  · cases e

end Go.Ev
