/-
  EvOps2 and what follows it.
-/
import Derived.Test.YtmndhjodbnojdaaDoorEvMem
import Derived.ChangeKeysEq
/-
  Aggregates, addresses, operators: the soundness of the evaluator, fourth part.
-/
set_option linter.unusedSimpArgs false
set_option linter.unusedVariables false
namespace Go.Ev

/-! ### building -/
theorem foldl_fill (off : Nat) : ∀ (vs : List Value) (k : Nat) (xs : Array Value),
    ((vs.zipIdx k).foldl (fun cs (p : Value × Nat) => cs.setIfInBounds (off + p.2) p.1) xs).size = xs.size ∧
    ∀ m : Nat, ((vs.zipIdx k).foldl (fun cs (p : Value × Nat) => cs.setIfInBounds (off + p.2) p.1) xs)[m]? = if off + k ≤ m ∧ m < off + k + vs.length ∧ m < xs.size then vs[m - (off + k)]? else xs[m]?
  | [], k, xs => by simp; omega
  | v :: r, k, xs => by
    obtain ⟨h1, h2⟩ := foldl_fill off r (k + 1) (xs.setIfInBounds (off + k) v)
    simp only [List.zipIdx_cons, List.foldl_cons]
    refine ⟨by rw [h1]; simp, fun m => ?_⟩
    rw [h2 m]
    simp only [Array.size_setIfInBounds, List.length_cons]
    by_cases hm : off + (k + 1) ≤ m ∧ m < off + (k + 1) + r.length ∧ m < xs.size
    · rw [if_pos hm, if_pos (by omega), show m - (off + k) = (m - (off + (k + 1))) + 1 by omega, List.getElem?_cons_succ]
    · rw [if_neg hm]
      by_cases h3 : m = off + k
      · subst h3
        by_cases h4 : off + k < xs.size
        · rw [if_pos (by omega)]; simp [h4]
        · rw [if_neg (by omega)]; rw [Array.getElem?_eq_none (by simp; omega), Array.getElem?_eq_none (by omega)]
      · rw [if_neg (by omega), Array.getElem?_setIfInBounds_ne (Ne.symm h3)]

def PartsRel (ρ : Ren) (ps : List (Nat × AV)) (vs : List (Nat × Value)) : Prop := ps.length = vs.length ∧ ∀ (k : Nat) i v, ps[k]? = some (i, v) → v.partOk = true ∧ ∃ x, vs[k]? = some (i, x) ∧ den ρ v = some x

theorem fill_ok {ρ : Ren} {place : Nat → Option (Nat × Nat)} : ∀ (ps : List (Nat × AV)) (vs : List (Nat × Value)) (cells : List AV) (xs : Array Value) (l : List AV),
    fillA place cells ps = some l → PartsRel ρ ps vs → RelL ρ cells xs.toList → ∃ ys, Instr.fill place xs vs = some ys ∧ RelL ρ l ys.toList
  | [], vs, cells, xs, l, e, hp, hr => by
    simp only [fillA] at e; cases e
    have : vs = [] := by have := hp.1; simpa using this.symm
    subst this
    exact ⟨xs, rfl, hr⟩
  | (i, v) :: r, vs, cells, xs, l, e, hp, hr => by
    obtain ⟨hpk, x, hx, hd⟩ := hp.2 0 i v (by simp)
    match vs, hx with
    | (i', x') :: vs', hx =>
      simp at hx; obtain ⟨rfl, rfl⟩ := hx
      simp only [fillA] at e
      split at e
      · cases e
      rename_i off size hpl
      split at e
      · rename_i hsz hle
        obtain ⟨hc, _⟩ := cells_den hpk hd
        have hlen := denL_length _ _ hc
        have hsz' := Nat.eq_of_beq_eq_true hsz
        have hle' : off + v.cells.length ≤ cells.length := by simpa using hle
        have hcl : cells.length = xs.size := by simpa using hr.1
        simp only [Array.length_toList] at hlen
        have hrest : PartsRel ρ r vs' := ⟨by simpa using hp.1, fun k i v hk => by
          obtain ⟨a, x, b, c⟩ := hp.2 (k + 1) i v (by simpa using hk)
          exact ⟨a, x, by simpa using b, c⟩⟩
        obtain ⟨hf1, hf2⟩ := foldl_fill off x'.cells.toList 0 xs
        have hfold : x'.cells.zipIdx.foldl (fun cs (p : Value × Nat) => cs.setIfInBounds (off + p.2) p.1) xs = (x'.cells.toList.zipIdx 0).foldl (fun cs (p : Value × Nat) => cs.setIfInBounds (off + p.2) p.1) xs := by
          rw [← Array.foldl_toList]; simp
        have hrel : RelL ρ (splice cells off v.cells) (x'.cells.zipIdx.foldl (fun cs (p : Value × Nat) => cs.setIfInBounds (off + p.2) p.1) xs).toList := by
          rw [hfold]
          refine ⟨by rw [splice_length]; simp [hf1, hcl], fun k u hk => ?_⟩
          rw [splice_get] at hk
          rw [Array.getElem?_toList, hf2 k]
          by_cases hin : off ≤ k ∧ k < off + v.cells.length ∧ k < cells.length
          · rw [if_pos hin] at hk
            obtain ⟨y, hy, hdy⟩ := denL_get _ _ hc _ u hk
            rw [if_pos (by simp; omega)]
            exact ⟨y, by simpa using hy, .inr hdy⟩
          · rw [if_neg hin] at hk
            rw [if_neg (by simp; omega)]
            obtain ⟨y, hy, hry⟩ := hr.2 k u hk
            exact ⟨y, by simpa using hy, hry⟩
        obtain ⟨ys, hys, hrys⟩ := fill_ok r vs' _ _ l e hrest hrel
        refine ⟨ys, ?_, hrys⟩
        simp only [Instr.fill, hpl]
        rw [if_neg (by simp; omega)]
        exact hys
      · cases e

theorem fieldsAt_ok {P : Program} {w : World} : ∀ (fs : List Field) (ps : List (Nat × Nat)), fieldsAt P fs = some ps →
    (fs.mapM (fun f => (do pure (f.offset, ← sizeOf f.type) : Sem (Nat × Nat)))).run P w = .ok ps w
  | [], ps, e => by simp only [fieldsAt] at e; cases e; simp
  | f :: r, ps, e => by
    simp only [fieldsAt] at e
    split at e
    · rename_i n l hn hl
      cases e
      simp only [List.mapM_cons, Sem.run_bind, run_sizeOf hn, Result.andThen_ok, Sem.run_pure, fieldsAt_ok r l hl]
    · cases e

theorem allKnown_mem : ∀ {l : List AV}, allKnown l = true → ∀ v ∈ l, v ≠ .top
  | [], _, v, hv => by simp at hv
  | x :: r, h, v, hv => by
    simp only [allKnown] at h
    split at h
    · rename_i hx
      rcases List.mem_cons.1 hv with rfl | hv
      · intro e; subst e; simp [AV.known] at hx
      · exact allKnown_mem h v hv
    · cases h

theorem RelL.den {ρ : Ren} {l : List AV} {xs : List Value} (h : RelL ρ l xs) (hk : ∀ v ∈ l, v ≠ .top) : denL ρ l = some xs :=
  denL_of _ _ h.1 (fun k v hv => let ⟨x, hx, r⟩ := h.2 k v hv; ⟨x, hx, relS_den r (hk v (List.mem_of_getElem? hv))⟩)

theorem denL.rel {ρ : Ren} {l : List AV} {xs : List Value} (h : denL ρ l = some xs) : RelL ρ l xs :=
  ⟨denL_length _ _ h, fun k v hv => let ⟨x, hx, r⟩ := denL_get _ _ h k v hv; ⟨x, hx, .inr r⟩⟩

theorem zero_cells {ρ : Ren} (v : Value) : RelL ρ (ofVal v).cells v.cells.toList := by
  by_cases h : ∃ cs, v = .agg cs
  · obtain ⟨cs, rfl⟩ := h
    have := ofVal_den ρ (.agg cs)
    simp only [ofVal, den] at this
    cases hl : denL ρ (cs.toList.map cellOf) with
    | none => simp [hl] at this
    | some l =>
      simp [hl] at this
      subst this
      simpa [ofVal, AV.cells, Value.cells] using denL.rel hl
  · have hc : v.cells = #[v] := by cases v <;> first | rfl | exact absurd ⟨_, rfl⟩ h
    have ho : ofVal v = cellOf v := by cases v <;> first | rfl | exact absurd ⟨_, rfl⟩ h
    have hcc : (cellOf v).cells = [cellOf v] := by unfold cellOf; split <;> rfl
    rw [ho, hcc, hc]
    exact ⟨by simp, fun k u hk => by
      cases k with
      | zero => simp at hk; subst hk; exact ⟨v, by simp, .inr (cellOf_den ρ v)⟩
      | succ k => simp at hk⟩

theorem build_ok {P : Program} {ρ : Ren} {w : World} {t : TypeId} {ps : List (Nat × AV)} {v : AV} (e : buildA P t ps = some v) {vs : Array (Nat × Value)} (hp : PartsRel ρ ps vs.toList) :
    ∃ x, (Instr.build t vs).run P w = .ok x w ∧ den ρ v = some x := by
  unfold buildA at e
  split at e
  · rename_i z fields hz hu
    obtain ⟨zv, hzr, rfl⟩ := run_zero (w := w) hz
    split at e
    · rename_i places hpl
      split at e
      · rename_i l hl
        split at e
        · rename_i hk
          cases e
          obtain ⟨ys, hys, hr⟩ := fill_ok ps vs.toList _ zv.cells l hl hp (zero_cells zv)
          refine ⟨.agg ys, ?_, ?_⟩
          · have hm : (fields.mapM (fun f => (do pure (f.offset, ← sizeOf f.type) : Sem (Nat × Nat)))).run P w = .ok places.toArray w := by
              rw [Array.mapM_eq_mapM_toList, Sem.run_map, fieldsAt_ok _ _ hpl]
              rfl
            have hplace : (fun i => places.toArray[i]?) = nth places := by funext i; simp [nth_eq]
            simp only [Instr.build, Sem.run_bind, hzr, Result.andThen_ok, run_underlying' hu, hm, hplace, hys, Sem.run_pure]
          · have := hr.den (allKnown_mem hk)
            simp [den, this]
        · cases e
      · cases e
    · cases e
  · rename_i z n el hz hu
    obtain ⟨zv, hzr, rfl⟩ := run_zero (w := w) hz
    split at e
    · rename_i sz hsz
      split at e
      · rename_i l hl
        split at e
        · rename_i hk
          cases e
          obtain ⟨ys, hys, hr⟩ := fill_ok ps vs.toList _ zv.cells l hl hp (zero_cells zv)
          refine ⟨.agg ys, ?_, ?_⟩
          · simp only [Instr.build, Sem.run_bind, hzr, Result.andThen_ok, run_underlying' hu, run_sizeOf hsz, hys, Sem.run_pure]
          · have := hr.den (allKnown_mem hk)
            simp [den, this]
        · cases e
      · cases e
    · cases e
  · cases e

theorem repeatL_get {α : Type} (l : List α) (hl : l ≠ []) : ∀ (n k : Nat), (repeatL l n)[k]? = if k < n * l.length then l[k % l.length]? else none
  | 0, k => by simp [repeatL]
  | n + 1, k => by
    have hpos : 0 < l.length := List.length_pos_iff.2 hl
    simp only [repeatL]
    rw [List.getElem?_append]
    split
    · rename_i h
      rw [if_pos (by rw [Nat.succ_mul]; omega), Nat.mod_eq_of_lt h]
    · rename_i h
      rw [repeatL_get l hl n]
      have : (k - l.length) % l.length = k % l.length := by
        conv => rhs; rw [show k = (k - l.length) + l.length by omega]
        simp
      rw [this, Nat.succ_mul]
      by_cases h2 : k - l.length < n * l.length
      · rw [if_pos h2, if_pos (by omega)]
      · rw [if_neg h2, if_neg (by omega)]

theorem repeatL_length {α : Type} (l : List α) : ∀ n, (repeatL l n).length = n * l.length
  | 0 => by simp [repeatL]
  | n + 1 => by simp [repeatL, repeatL_length l n, Nat.succ_mul]; omega

theorem buildSlice_ok {P : Program} {ρ : Ren} {h h' : Hp} {w : World} {t : TypeId} {len : Nat} {ps : List (Nat × AV)} {v : AV} (e : buildSliceA P t len ps h = some (v, h')) :
    Mono h h' ∧ v ≠ .top ∧ (Fresh ρ h.nxt h.hi → HeapRep P ρ h.heap w → ∀ vs : Array (Nat × Value), PartsRel ρ ps vs.toList → ∃ ρ' w' x, (Instr.buildSlice t len vs).run P w = .ok x w' ∧ den ρ' v = some x ∧ Step P ρ h w ρ' h' w') := by
  unfold buildSliceA at e
  split at e
  · rename_i el hu
    split at e
    · rename_i n z hn hz
      split at e
      · rename_i hzl hbig hone
        split at e
        · rename_i l hl
          split at e
          · rename_i ha
            split at e
            · rename_i b h1 hb
              cases e
              refine ⟨new_mono hb, by simp, fun hf hr vs hp => ?_⟩
              obtain ⟨zv, hzr, rfl⟩ := run_zero (w := w) hz
              have hzl' := Nat.eq_of_beq_eq_true hzl
              have hbig' : len * n ≤ 2 ^ 24 := by simpa using hbig
              have hone' : 1 ≤ len * n := by simpa using hone
              have hn0 : n ≠ 0 := by intro x; subst x; simp at hone'
              have hlen0 : len ≠ 0 := by intro x; subst x; simp at hone'
              have hzc := zero_cells (ρ := ρ) zv
              have hzs : zv.cells.size = n := by have := hzc.1; simp at this; omega
              have hne : (ofVal zv).cells ≠ [] := by intro x; rw [x] at hzl'; simp at hzl'; omega
              let init : Array Value := (Array.range (len * n)).map (fun i => zv.cells[i % zv.cells.size]!)
              have hinit : RelL ρ (repeatL (ofVal zv).cells len) init.toList := by
                refine ⟨by simp [init, repeatL_length, hzl'], fun k u hk => ?_⟩
                rw [repeatL_get _ hne, hzl'] at hk
                split at hk
                · rename_i hlt
                  obtain ⟨y, hy, hry⟩ := hzc.2 _ u hk
                  refine ⟨y, ?_, hry⟩
                  simp only [Array.getElem?_toList] at hy
                  simp [init, hlt, hzs, getElem!_def, hy]
                · cases hk
              obtain ⟨ys, hys, hrel⟩ := fill_ok ps vs.toList _ init l hl hp hinit
              have hd := hrel.den (fun v hv => oneCell_known (allOne_mem ha v hv))
              have hlen := denL_length _ _ hd
              let lc : Loc := ⟨w.heap.size, 0, n, len, false⟩
              have hρb : ρ b = none := by obtain ⟨rfl, hlt, _⟩ := new_spec hb; exact hf _ (Nat.le_refl _) hlt
              -- the length of the cells
              have hfl : ∀ (ps : List (Nat × AV)) (cells l : List AV), fillA (fun i => some (i * n, n)) cells ps = some l → l.length = cells.length := by
                intro ps
                induction ps with
                | nil => intro cells l h; simp only [fillA] at h; cases h; rfl
                | cons p r ih =>
                  intro cells l h
                  obtain ⟨i, v⟩ := p
                  simp only [fillA] at h
                  split at h
                  · rw [ih _ _ h, splice_length]
                  · cases h
              have hll : l.length = len * n := by rw [hfl _ _ _ hl, repeatL_length, hzl']
              have ho : ObjRep P (ρ.set b lc) (w.alloc (.cells ys el)) lc (.cells n l) := by
                refine ⟨rfl, hlen0, rfl, ys, el, (0, 0), heap_alloc_new w _, Nat.le_refl _, by simp [lc]; simp at hlen; omega, by simp [lc]; simp at hlen; omega, fun j v' hj => ?_⟩
                obtain ⟨y, hy, hdy⟩ := denL_get _ _ hd j v' hj
                exact ⟨y, by simpa [lc] using hy, .inr (den_mono (Ren.le_set hρb) _ _ hdy)⟩
              obtain ⟨hs, _⟩ := new_step hb hr hf (.cells ys el) lc rfl ho
              refine ⟨ρ.set b lc, _, .slice (some ⟨w.heap.size, 0, none⟩) len len, ?_, ?_, hs⟩
              · have hnz : ¬ (len * n = 0) := by
                  intro h0; rcases Nat.mul_eq_zero.1 h0 with h0 | h0 <;> omega
                simp only [Instr.buildSlice, Sem.run_bind, run_underlying' hu, Result.andThen_ok, run_sizeOf hn]
                rw [if_neg (by omega)]
                simp only [Sem.run_bind, Sem.run_ite, hnz, if_false, Sem.run_pure, Result.andThen_ok, hzr]
                have : Instr.fill (fun i => some (i * n, n)) ((Array.range (len * n)).map (fun i => zv.cells[i % zv.cells.size]!)) vs.toList = some ys := hys
                simp only [this]
                simp [newRow]
              · simp [den, Ren.set_same, Loc.slice, lc, capOr]
            · cases e
          · cases e
        · cases e
      · rename_i hzl hbig hone
        split at e
        · rename_i hl0
          split at e
          · rename_i b h1 hb
            cases e
            refine ⟨new_mono hb, by simp, fun hf hr vs hp => ?_⟩
            have hl0 := Nat.eq_of_beq_eq_true hl0; subst hl0
            have hzl := Nat.eq_of_beq_eq_true hzl
            have hvs : vs = #[] := by
              have := hp.1
              simp at this
              exact Array.eq_empty_of_size_eq_zero this.symm
            subst hvs
            let lc : Loc := ⟨w.heap.size, 0, n, 0, false⟩
            obtain ⟨hs, _⟩ := new_step hb hr hf (.cells #[] el) lc rfl ⟨rfl, by simp [hzl], Nat.le_refl _, fun _ => rfl, fun h => absurd rfl h⟩
            refine ⟨ρ.set b lc, _, .slice (some ⟨w.heap.size, 0, none⟩) 0 0, ?_, ?_, hs⟩
            · have hr0 : ∀ f : Nat → Value, Array.map f (Array.range 0) = #[] := fun f => Array.ext' (by simp)
              simp [Instr.buildSlice, run_underlying' hu, run_sizeOf hn, Instr.fill, newRow, hr0]
            · simp [den, Ren.set_same, Loc.slice, lc, capOr]
          · cases e
        · cases e
      · cases e
    · cases e
  · cases e

end Go.Ev

/-
  Parts, addresses, operators: the soundness of the evaluator, fifth part.
-/
set_option linter.unusedSimpArgs false
set_option linter.unusedVariables false
namespace Go.Ev

theorem addr_add (b o n : Nat) : (⟨b, o, none⟩ : Addr).add n = ⟨b, o + n, none⟩ := by unfold Addr.add; split <;> simp_all

theorem denL_take_drop {ρ : Ren} {l : List AV} {xs : List Value} (h : denL ρ l = some xs) (off n : Nat) : denL ρ ((l.drop off).take n) = some ((xs.drop off).take n) := by
  have hlen := denL_length _ _ h
  refine denL_of _ _ (by simp [hlen]) (fun k v hk => ?_)
  rw [List.getElem?_take] at hk ⊢
  split at hk
  · rename_i hkn
    rw [if_pos hkn, List.getElem?_drop]
    rw [List.getElem?_drop] at hk
    exact denL_get _ _ h _ v hk
  · cases hk

theorem part_ok {P : Program} {ρ : Ren} {w : World} {t : TypeId} {l : List AV} {off : Nat} {v : AV} {xs : List Value} (e : partA P t l off = some v) (hd : denL ρ l = some xs) :
    ∃ x, (part t xs.toArray off).run P w = .ok x w ∧ den ρ v = some x := by
  unfold partA at e
  split at e
  · rename_i n ha hn
    split at e
    · rename_i p hp
      cases e
      obtain ⟨hlen, rfl⟩ := takeN_eq _ _ _ hp
      rw [dropN_eq] at hlen ⊢
      refine ⟨.agg (xs.toArray.extract off (off + n)), ?_, ?_⟩
      · simp only [part, Sem.run_bind, run_isAgg ha, Result.andThen_ok, if_true, run_sizeOf hn, Sem.run_pure]
      · simp [den, denL_take_drop hd]
    · cases e
  · rename_i ha hn
    rw [nth_eq] at e
    obtain ⟨x, hx, hdx⟩ := denL_get _ _ hd _ v e
    refine ⟨x, ?_, hdx⟩
    simp [part, run_isAgg ha, hx]
  · cases e

theorem den_agg {ρ : Ren} {l : List AV} {x : Value} (h : den ρ (.agg l) = some x) : ∃ xs, denL ρ l = some xs ∧ x = .agg xs.toArray := by
  simp only [den] at h
  cases hl : denL ρ l with
  | none => simp [hl] at h
  | some l' => simp only [hl] at h; cases h; exact ⟨l', rfl, rfl⟩

theorem den_tup {ρ : Ren} {l : List AV} {x : Value} (h : den ρ (.tup l) = some x) : ∃ xs, denL ρ l = some xs ∧ x = .tuple xs.toArray := by
  simp only [den] at h
  cases hl : denL ρ l with
  | none => simp [hl] at h
  | some l' => simp only [hl] at h; cases h; exact ⟨l', rfl, rfl⟩

theorem relS_known {ρ : Ren} {v : AV} {x : Value} (h : relS ρ v x) (hk : v ≠ .top) : den ρ v = some x := relS_den h hk

theorem field_ok {P : Program} {ρ : Ren} {w : World} {t : TypeId} {v r : AV} {f : Nat} {x : Value} (e : fieldA P t v f = some r) (hx : relS ρ v x) : ∃ y, (Instr.field t x f).run P w = .ok y w ∧ den ρ r = some y := by
  unfold fieldA at e
  split at e
  · rename_i l fields hu
    split at e
    · rename_i fd hf
      rw [nth_eq, Array.getElem?_toList] at hf
      obtain ⟨xs, hxs, rfl⟩ := den_agg (relS_den hx (by simp))
      obtain ⟨y, hy, hd⟩ := part_ok (w := w) e hxs
      refine ⟨y, ?_, hd⟩
      simp [Instr.field, run_underlying' hu, hf, asAgg, hy]
    · cases e
  · cases e

theorem fieldAddr_ok {P : Program} {ρ : Ren} {w : World} {t : TypeId} {v r : AV} {f : Nat} {x : Value} (e : fieldAddrA P t v f = some r) (hx : relS ρ v x) : ∃ y, (Instr.fieldAt t x f).run P w = .ok y w ∧ den ρ r = some y := by
  unfold fieldAddrA at e
  split at e
  · rename_i b i j fields hu
    split at e
    · rename_i fd hf
      split at e
      · rename_i n hn
        cases e
        rw [nth_eq, Array.getElem?_toList] at hf
        obtain ⟨L, hL, hnil, rfl⟩ := den_ptr (relS_den hx (by simp))
        refine ⟨.pointer (some ⟨L.blk, L.base + i * L.wid + (j + fd.offset), none⟩), ?_, by simp [den, hL, hnil]⟩
        simp [Instr.fieldAt, run_underlying' hu, hf, Instr.sureAddr, fieldPlace, run_sizeOf hn, addr_add, Nat.add_assoc]
      · cases e
    · cases e
  · cases e

theorem int_of_lit {ρ : Ren} {v : AV} {x : Value} {m : Nat} (h : ∃ k, v = .int k (m : Int) ∨ v = .sym k (m : Int)) (hx : relS ρ v x) : ∃ k, x = .int k (m : Int) := by
  obtain ⟨k, rfl | rfl⟩ := h
  · have := relS_den hx (by simp); simp [den] at this; exact ⟨k, this.symm⟩
  · have := relS_den hx (by simp); simp [den] at this; exact ⟨k, this.symm⟩

/-- What a slice's value says. -/
theorem den_ss {ρ : Ren} {wd b off len : Nat} {c : Option Nat} {x : Value} (h : den ρ (.ss wd b off len c) = some x) : ∃ l, ρ b = some l ∧ l.wid = wd ∧
    ((l.isnil = true ∧ off = 0 ∧ len = 0 ∧ capOr c 0 = 0 ∧ x = .slice none 0 0) ∨
     (l.isnil = false ∧ len ≤ capOr c (l.cap - off) ∧ off + capOr c (l.cap - off) ≤ l.cap ∧ x = .slice (some ⟨l.blk, l.base + off * l.wid, none⟩) len (capOr c (l.cap - off)))) := by
  simp only [den] at h
  cases hb : ρ b with
  | none => simp [hb] at h
  | some l =>
    simp only [hb, Loc.slice] at h
    split at h
    · rename_i hw
      refine ⟨l, rfl, hw, ?_⟩
      cases hn : l.isnil with
      | true =>
        simp only [hn] at h
        split at h
        · rename_i hc; cases h; exact .inl ⟨rfl, hc.1, hc.2.1, hc.2.2, rfl⟩
        · cases h
      | false =>
        simp only [hn] at h
        split at h
        · rename_i hc; cases h; exact .inr ⟨rfl, hc.1, hc.2, rfl⟩
        · cases h
    · cases h

theorem den_xs {ρ : Ren} {wd b off len : Nat} {c : Option Nat} {x : Value} (h : den ρ (.xs wd b off len c) = some x) : ∃ l, ρ b = some l ∧ l.wid = wd ∧ l.isnil = false ∧
     len ≤ capOr c (l.cap - off) ∧ off + capOr c (l.cap - off) ≤ l.cap ∧ x = .slice (some ⟨l.blk, l.base + off * l.wid, none⟩) len (capOr c (l.cap - off)) := by
  simp only [den] at h
  cases hb : ρ b with
  | none => simp [hb] at h
  | some l =>
    simp only [hb] at h
    cases hn : l.isnil with
    | true => simp [hn] at h
    | false =>
      simp only [hn] at h
      have h' : den ρ (.ss wd b off len c) = some x := by simp only [den, hb]; exact h
      obtain ⟨l', hl', hw, hc | hc⟩ := den_ss h'
      · rw [hb] at hl'; cases hl'; rw [hn] at hc; exact absurd hc.1 (by simp)
      · rw [hb] at hl'; cases hl'; exact ⟨l, rfl, hw, hn, hc.2⟩

theorem indexAddr_ok {P : Program} {ρ : Ren} {w : World} {t : TypeId} {v ix r : AV} {h h' : Hp} (e : indexAddrA P t v ix h = some (r, h')) :
    Qt h h' ∧ r ≠ .top ∧ ((∀ p ∈ h'.ob, p) → ∀ x y, relS ρ v x → relS ρ ix y → ∃ z, (Instr.indexAt t x y).run P w = .ok z w ∧ den ρ r = some z) := by
  unfold indexAddrA at e
  split at e
  · rename_i wd b off len c el hu
    split at e
    · rename_i i h1 n hl hn
      split at e
      · rename_i hlt hw
        cases e
        obtain ⟨q, o⟩ := literal_qt hl
        refine ⟨q, by simp, fun ho x y hx hy => ?_⟩
        have hlt' : i < len := by simpa [Nat.blt_eq] using hlt
        have hw' := Nat.eq_of_beq_eq_true hw
        obtain ⟨k, rfl⟩ := int_of_lit (o ho) hy
        obtain ⟨L, hL, hwd, hnil, hcl, hcap, rfl⟩ := den_xs (relS_den hx (by simp))
        refine ⟨.pointer (some ⟨L.blk, L.base + (off + i) * L.wid + 0, none⟩), ?_, by simp [den, hL, hnil]⟩
        simp [Instr.indexAt, asIntOf, run_underlying' hu, run_sizeOf hn, addr_add]
        rw [if_pos (by omega)]
        simp [run_sizeOf hn, addr_add, hw', ← hwd, Nat.add_mul, Nat.add_assoc]
      · cases e
    · cases e
  · rename_i wd b off len c el hu
    split at e
    · rename_i i h1 n hl hn
      split at e
      · rename_i hw
        cases e
        obtain ⟨q, o⟩ := index_qt hl
        refine ⟨q, by simp, fun ho x y hx hy => ?_⟩
        have hw' := Nat.eq_of_beq_eq_true hw
        obtain ⟨hlt', hk⟩ := o ho
        obtain ⟨k, rfl⟩ := int_of_lit hk hy
        obtain ⟨L, hL, hwd, hc | ⟨hnil, hcl, hcap, rfl⟩⟩ := den_ss (relS_den hx (by simp))
        · omega
        refine ⟨.pointer (some ⟨L.blk, L.base + (off + i) * L.wid + 0, none⟩), ?_, by simp [den, hL, hnil]⟩
        simp [Instr.indexAt, asIntOf, run_underlying' hu, run_sizeOf hn, addr_add]
        rw [if_pos (by omega)]
        simp [run_sizeOf hn, addr_add, hw', ← hwd, Nat.add_mul, Nat.add_assoc]
      · cases e
    · cases e
  · rename_i b i j len el hu
    split at e
    · rename_i n h1 s hl hn
      split at e
      · rename_i hlt
        cases e
        obtain ⟨q, o⟩ := literal_qt hl
        refine ⟨q, by simp, fun ho x y hx hy => ?_⟩
        have hlt' : n < len := by simpa [Nat.blt_eq] using hlt
        obtain ⟨k, rfl⟩ := int_of_lit (o ho) hy
        obtain ⟨L, hL, hnil, rfl⟩ := den_ptr (relS_den hx (by simp))
        refine ⟨.pointer (some ⟨L.blk, L.base + i * L.wid + (j + n * s), none⟩), ?_, by simp [den, hL, hnil]⟩
        simp [Instr.indexAt, asIntOf, run_underlying' hu, Instr.sureAddr]
        rw [if_pos (by omega)]
        simp [run_sizeOf hn, addr_add, Nat.add_assoc]
      · cases e
    · cases e
  · cases e

theorem index_ok {P : Program} {ρ : Ren} {w : World} {t : TypeId} {v ix r : AV} {h h' : Hp} (e : indexA P t v ix h = some (r, h')) :
    Qt h h' ∧ ((∀ p ∈ h'.ob, p) → ∀ x y, relS ρ v x → relS ρ ix y → ∃ z, (Instr.index t x y).run P w = .ok z w ∧ den ρ r = some z) := by
  unfold indexA at e
  split at e
  · rename_i l len el hu
    split at e
    · rename_i i h1 n hl hn
      split at e
      · rename_i x0 hlt hp
        cases e
        obtain ⟨q, o⟩ := literal_qt hl
        refine ⟨q, fun ho x y hx hy => ?_⟩
        have hlt' : i < len := by simpa [Nat.blt_eq] using hlt
        obtain ⟨k, rfl⟩ := int_of_lit (o ho) hy
        obtain ⟨xs, hxs, rfl⟩ := den_agg (relS_den hx (by simp))
        obtain ⟨z, hz, hd⟩ := part_ok (w := w) hp hxs
        refine ⟨z, ?_, hd⟩
        simp [Instr.index, asIntOf, run_underlying' hu]
        rw [if_pos (by omega)]
        simp [run_sizeOf hn, hz]
      · cases e
    · cases e
  · cases e

/-! ### operators -/
theorem eqFields_ok {P : Program} {ρ : Ren} {w : World} {d : Nat} {eqv : TypeId → AV → AV → Option (Bool × Bool)}
    (ih : ∀ t x y c b X Y, eqv t x y = some (c, b) → den ρ x = some X → den ρ y = some Y → (Op.equalIn d t X Y).run P w = .ok b w) {l m : List AV} {xs ys : List Value} (hl : denL ρ l = some xs) (hm : denL ρ m = some ys) :
    ∀ (fs : List Field) (c b : Bool), eqFields P eqv l m fs = some (c, b) → (Op.eqFields d xs.toArray ys.toArray fs).run P w = .ok b w
  | [], c, b, e => by simp only [eqFields] at e; cases e; simp [Op.eqFields]
  | f :: r, c, b, e => by
    simp only [eqFields] at e
    split at e
    · rename_i a b' hn ha hb
      split at e
      · rename_i c1 p d1 q h1 h2
        cases e
        obtain ⟨x, hx, hdx⟩ := part_ok (w := w) ha hl
        obtain ⟨y, hy, hdy⟩ := part_ok (w := w) hb hm
        have hn' : f.name ≠ "_" := of_decide_eq_true hn
        have := ih _ _ _ _ _ _ _ h1 hdx hdy
        have hrest := eqFields_ok ih hl hm r _ _ h2
        simp only [Op.eqFields]
        rw [if_pos hn']
        simp only [Sem.run_bind, hx, hy, Result.andThen_ok, this]
        cases p
        · simp [and2]
        · simp [and2, hrest]
      · cases e
    · cases e

theorem eqItems_ok {P : Program} {ρ : Ren} {w : World} {d : Nat} {eqv : TypeId → AV → AV → Option (Bool × Bool)} {el : TypeId} {sz : Nat}
    (ih : ∀ t x y c b X Y, eqv t x y = some (c, b) → den ρ x = some X → den ρ y = some Y → (Op.equalIn d t X Y).run P w = .ok b w) {l m : List AV} {xs ys : List Value} (hl : denL ρ l = some xs) (hm : denL ρ m = some ys) :
    ∀ (is : List Nat) (c b : Bool), eqItemsA P eqv el sz l m is = some (c, b) → (Op.eqItems d el sz xs.toArray ys.toArray is).run P w = .ok b w
  | [], c, b, e => by simp only [eqItemsA] at e; cases e; simp [Op.eqItems]
  | i :: r, c, b, e => by
    simp only [eqItemsA] at e
    split at e
    · rename_i a b' ha hb
      split at e
      · rename_i c1 p d1 q h1 h2
        cases e
        obtain ⟨x, hx, hdx⟩ := part_ok (w := w) ha hl
        obtain ⟨y, hy, hdy⟩ := part_ok (w := w) hb hm
        have := ih _ _ _ _ _ _ _ h1 hdx hdy
        have hrest := eqItems_ok ih hl hm r _ _ h2
        simp only [Op.eqItems]
        simp only [Sem.run_bind, hx, hy, Result.andThen_ok, this]
        cases p
        · simp [and2]
        · simp [and2, hrest]
      · cases e
    · cases e

theorem eqA_ok {P : Program} {ρ : Ren} {w : World} : ∀ (d : Nat) (t : TypeId) (x y : AV) (c b : Bool) (X Y : Value), eqA P d t x y = some (c, b) → den ρ x = some X → den ρ y = some Y → (Op.equalIn d t X Y).run P w = .ok b w
  | 0, t, x, y, c, b, X, Y, e, _, _ => by simp [eqA] at e
  | d + 1, t, x, y, c, b, X, Y, e, hx, hy => by
    simp only [eqA] at e
    split at e
    · rename_i hu
      split at e
      · rename_i c1 a c2 b' h1 h2
        cases e
        obtain ⟨h1, _⟩ := asB_den (ρ := ρ) h1
        obtain ⟨h2, _⟩ := asB_den (ρ := ρ) h2
        rw [hx] at h1; rw [hy] at h2; cases h1; cases h2
        exact run_equalIn_bool' w d t _ _ hu
      · cases e
    · rename_i hu
      split at e
      · rename_i k c1 a k' c2 b' h1 h2
        split at e
        · rename_i hk
          cases e
          have hk := of_decide_eq_true hk; subst hk
          obtain ⟨h1, _⟩ := asI_den (ρ := ρ) h1
          obtain ⟨h2, _⟩ := asI_den (ρ := ρ) h2
          rw [hx] at h1; rw [hy] at h2; cases h1; cases h2
          exact run_equalIn_int w d t _ _ _ _ hu
        · cases e
      · cases e
    · rename_i fields hu
      split at e
      · rename_i l m
        split at e
        · cases e
        · rename_i hst
          obtain ⟨xs, hxs, rfl⟩ := den_agg hx
          obtain ⟨ys, hys, rfl⟩ := den_agg hy
          have hfo : P.fieldsOf t = fields := by simp [Program.fieldsOf, hu]
          rw [run_equalIn_struct w d t _ _ (by rw [hfo]; exact hu) hst, hfo]
          exact eqFields_ok (fun t x y c b X Y e hx hy => eqA_ok d t x y c b X Y e hx hy) hxs hys _ _ _ e
      · cases e
    · rename_i n el hu
      split at e
      · rename_i l m sz hsz
        obtain ⟨xs, hxs, rfl⟩ := den_agg hx
        obtain ⟨ys, hys, rfl⟩ := den_agg hy
        simp only [sizeT, Option.map_eq_some_iff] at hsz
        obtain ⟨i, hi, rfl⟩ := hsz
        rw [run_equalIn_array w d _ _ hu hi]
        have hc : P.cellsOf el = i.size := by simp [Program.cellsOf, hi]
        rw [hc]
        exact eqItems_ok (fun t x y c b X Y e hx hy => eqA_ok d t x y c b X Y e hx hy) hxs hys _ _ _ e
      · cases e
    · rename_i el hu
      split at e <;> cases e
      · simp [den] at hx hy; subst hx; subst hy; simp [Op.equalIn, run_underlying' hu]
      · obtain ⟨L, _, _, rfl⟩ := den_ptr hy; simp [den] at hx; subst hx; simp [Op.equalIn, run_underlying' hu]
      · obtain ⟨L, _, _, rfl⟩ := den_ptr hx; simp [den] at hy; subst hy; simp [Op.equalIn, run_underlying' hu]
    · rename_i el hu
      split at e <;> cases e
      · simp [den] at hx hy; subst hx; subst hy; simp [Op.equalIn, run_underlying' hu]
      · obtain ⟨L, _, _, _, _, _, rfl⟩ := den_xs hy; simp [den] at hx; subst hx; simp [Op.equalIn, run_underlying' hu]
      · obtain ⟨L, _, _, _, _, _, rfl⟩ := den_xs hx; simp [den] at hy; subst hy; simp [Op.equalIn, run_underlying' hu]
    · rename_i k el hu
      split at e <;> cases e
      · simp [den] at hx hy; subst hx; subst hy; simp [Op.equalIn, run_underlying' hu]
      · rename_i m
        simp only [den] at hx hy; cases hx
        cases hb : ρ m with
        | none => simp [hb] at hy
        | some l => simp only [hb] at hy; cases hy; simp [Op.equalIn, run_underlying' hu]
      · rename_i m
        simp only [den] at hx hy; cases hy
        cases hb : ρ m with
        | none => simp [hb] at hx
        | some l => simp only [hb] at hx; cases hx; simp [Op.equalIn, run_underlying' hu]
    · rename_i a1 a2 a3 hu
      split at e <;> cases e
      · simp [den] at hx hy; subst hx; subst hy; simp [Op.equalIn, run_underlying' hu]
      · rename_i f l m
        simp only [den] at hx hy; cases hx
        cases hl : denL ρ l with
        | none => simp [hl] at hy
        | some l' => cases hm : denL ρ m with
          | none => simp [hl, hm] at hy
          | some m' => simp only [hl, hm] at hy; cases hy; simp [Op.equalIn, run_underlying' hu]
      · rename_i f l m
        simp only [den] at hx hy; cases hy
        cases hl : denL ρ l with
        | none => simp [hl] at hx
        | some l' => cases hm : denL ρ m with
          | none => simp [hl, hm] at hx
          | some m' => simp only [hl, hm] at hx; cases hx; simp [Op.equalIn, run_underlying' hu]
    · rename_i ms hu
      split at e <;> cases e
      · rename_i t' v
        simp only [den] at hx hy; cases hx
        cases hl : den ρ v with
        | none => simp [hl] at hy
        | some l' => simp only [hl] at hy; cases hy; simp [Op.equalIn, run_underlying' hu]
      · rename_i t' v
        simp only [den] at hx hy; cases hy
        cases hl : den ρ v with
        | none => simp [hl] at hx
        | some l' => simp only [hl] at hx; cases hx; simp [Op.equalIn, run_underlying' hu]
    · cases e

end Go.Ev
