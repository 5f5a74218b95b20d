/-
  'make', 'append', 'len', 'cap', 'min', 'max': the soundness of the evaluator, eighth part.
-/
import Derived.Test.YtmndhjodbnojdaaDoorEvOps2
set_option linter.unusedSimpArgs false
set_option linter.unusedVariables false
namespace Go.Ev

theorem wrap_i64 {n : Int} (h : 0 ≤ n) (h' : n ≤ 9223372036854775807) : IntKind.i64.wrap n = n := by
  unfold IntKind.wrap
  have h1 : n % (2 ^ IntKind.i64.bits : Int) = n := Int.emod_eq_of_lt h (by simp [IntKind.bits]; omega)
  simp only [h1]
  rw [if_neg]
  simp [IntKind.bits, IntKind.signed]
  omega

theorem bytes_info {P : Program} {t : TypeId} {n : Nat} (h : bytesT P t = some n) : ∃ i, P.info? t = some i ∧ i.bytes = n := by
  unfold bytesT at h
  cases hi : P.info? t with
  | none => simp [hi] at h
  | some i => simp [hi] at h; exact ⟨i, rfl, h⟩

theorem kindOf_ok {v : AV} (h : v.oneCell = true) : kindOk (kindOf v) v := by
  cases v <;> simp [kindOf, kindOk] <;> first | exact h | skip

theorem run_makeSlice {P : Program} {w : World} {t e : TypeId} {n by_ : Nat} {zv : Value} {k k' : IntKind} {l m : Nat} (hu : P.underlying t = some (.slice e)) (hn : sizeT P e = some n) (hb : bytesT P e = some by_) (hz : (zeroValue e).run P w = .ok zv w)
    (hlm : l ≤ m) (hm : m ≤ 9223372036854775807) (hbm : by_ * m ≤ 140737488355328) :
    (Instr.makeSlice t (.int k l) (.int k' m)).run P w = .ok (.slice (some ⟨w.heap.size, 0, none⟩) l m) (w.alloc (.cells (if m * n = 0 then #[] else (Array.range (m * n)).map (fun i => zv.cells[i % zv.cells.size]!)) e)) := by
  obtain ⟨i, hi, hib⟩ := bytes_info hb
  have h1 : IntKind.i64.wrap (l : Int) = l := wrap_i64 (by omega) (by omega)
  have h2 : IntKind.i64.wrap (m : Int) = m := wrap_i64 (by omega) (by omega)
  have h3 : ¬ ((by_ : Int) * (m : Int) > 2 ^ 48) := by
    have h0 := Int.ofNat_le.2 hbm
    rw [Int.natCast_mul] at h0
    omega
  have h4 : ¬ ((m : Int) < 0) := by omega
  have h5 : ¬ ((l : Int) < 0) := by omega
  have h6 : ¬ ((l : Int) > (m : Int)) := by omega
  simp only [Instr.makeSlice, Sem.run_bind, run_underlying' hu, Result.andThen_ok, asInt, asIntOf, Sem.run_pure, pure_bind, typeInfo, run_program, hi, hib, h1, h2]
  simp only [h3, h4, h5, h6, decide_false, Bool.or_self, Bool.false_eq_true, if_false, Sem.run_bind, run_askRoom, Result.andThen_ok, run_sizeOf hn, Int.toNat_natCast]
  by_cases h0 : m * n = 0
  · have hr0 : ∀ f : Nat → Value, Array.map f (Array.range 0) = #[] := fun f => Array.ext' (by simp)
    simp [h0, newRow, hr0]
  · simp only [h0, if_false, Sem.run_bind, hz, Result.andThen_ok, Sem.run_pure]
    simp [newRow]

theorem zero_range {zv : Value} {n m : Nat} (hzs : zv.cells.size = n) (hn : n ≠ 0) {k : Nat} (hk : k < m * n) : ((Array.range (m * n)).map (fun i => zv.cells[i % zv.cells.size]!))[k]? = zv.cells[k % n]? := by
  have : k % n < zv.cells.size := by rw [hzs]; exact Nat.mod_lt _ (by omega)
  simp [hk, hzs, getElem!_def, Array.getElem?_eq_getElem this]

theorem makeSlice_ok {P : Program} {ρ : Ren} {w : World} {t : TypeId} {len cap r : AV} {h h' : Hp} (e : makeSliceA P t len cap h = some (r, h')) :
    Mono h h' ∧ r ≠ .top ∧ ((∀ p ∈ h'.ob, p) → Fresh ρ h.nxt h.hi → HeapRep P ρ h.heap w → ∀ x y, relS ρ len x → relS ρ cap y → ∃ ρ' w' z, (Instr.makeSlice t x y).run P w = .ok z w' ∧ den ρ' r = some z ∧ Step P ρ h w ρ' h' w') := by
  unfold makeSliceA at e
  split at e
  · rename_i el hu
    split at e
    · rename_i n z by_ k c l k' d m hn hz hb hl hm
      have hX : ∀ X, relS ρ len X → X = .int k l := fun X hX => by
        obtain ⟨h1, h2⟩ := asI_den (ρ := ρ) hl
        have := relS_den hX h2; rw [h1] at this; cases this; rfl
      have hY : ∀ Y, relS ρ cap Y → Y = .int k' m := fun Y hY => by
        obtain ⟨h1, h2⟩ := asI_den (ρ := ρ) hm
        have := relS_den hY h2; rw [h1] at this; cases this; rfl
      split at e
      · rename_i hzl hone ha
        have hzl := Nat.eq_of_beq_eq_true hzl
        have hone : 1 ≤ n := by simpa using hone
        obtain ⟨zv, hzr, rfl⟩ := run_zero (w := w) hz
        have hzc := zero_cells (ρ := ρ) zv
        have hzs : zv.cells.size = n := by have := hzc.1; simp at this; omega
        have hzd := hzc.den (fun v hv => oneCell_known (allOne_mem ha v hv))
        -- what a made array stands for
        have harr : ∀ (M : Nat) (b : Nat) (L : Loc), ρ b = none → L = ⟨w.heap.size, 0, n, M, false⟩ → ∀ (f : Nat → Nat → AV), (∀ i, i < M → ∀ j, f i j = match nth (ofVal zv).cells j with | some v => v | none => .top) →
            ObjRep P (ρ.set b L) (w.alloc (.cells (if M * n = 0 then #[] else (Array.range (M * n)).map (fun i => zv.cells[i % zv.cells.size]!)) el)) L (.arr n ((ofVal zv).cells.map kindOf) false M f) := by
          rintro M b L hρb rfl f hff
          refine ⟨rfl, by simp [hzl], Nat.le_refl _, by simp, fun hc => ⟨_, el, (0, 0), heap_alloc_new w _, fun _ => Nat.le_refl _, ?_, fun i hi j kd hk => ?_⟩⟩
          · simp only at hc
            have : M * n ≠ 0 := Nat.mul_ne_zero hc (by omega)
            simp [this]
          · simp only [List.getElem?_map] at hk
            cases hzj : (ofVal zv).cells[j]? with
            | none => simp [hzj] at hk
            | some v =>
              simp [hzj] at hk; subst hk
              have hj : j < n := by have := (List.getElem?_eq_some_iff.1 hzj).1; omega
              have hv1 : v.oneCell = true := allOne_mem ha v (List.mem_of_getElem? hzj)
              obtain ⟨y, hy, hdy⟩ := denL_get _ _ hzd j v hzj
              have hij : i * n + j < M * n := by
                have : (i + 1) * n ≤ M * n := Nat.mul_le_mul_right n (by omega)
                rw [Nat.succ_mul] at this; omega
              have hne : M * n ≠ 0 := by omega
              rw [hff i hi, nth_eq, hzj]
              refine ⟨kindOf_ok hv1, y, ?_, den_mono (Ren.le_set hρb) _ _ hdy⟩
              simp only [hne, if_false, Nat.zero_add]
              rw [zero_range hzs (by omega) hij]
              have : (i * n + j) % n = j := by rw [Nat.add_comm, Nat.add_mul_mod_self_right, Nat.mod_eq_of_lt hj]
              rw [this]; simpa using hy
        split at e
        · split at e
          · rename_i l m
            split at e
            · rename_i h1 h2 h3
              split at e
              · rename_i b h4 hnew
                cases e
                refine ⟨new_mono hnew, by simp, fun _ hf hr x y hx hy => ?_⟩
                have h1 : l ≤ m + 1 := by simpa using h1
                have h2 : by_ * (m + 1) ≤ 140737488355328 := by simpa using h2
                have h3 : m + 1 ≤ 9223372036854775807 := by simpa using h3
                have hx := hX x hx; have hy := hY y hy
                subst hx; subst hy
                have hrun := run_makeSlice (k := k) (k' := k') (l := l) (m := m + 1) hu hn hb hzr h1 h3 h2
                have hρb : ρ b = none := by obtain ⟨rfl, hlt, _⟩ := new_spec hnew; exact hf _ (Nat.le_refl _) hlt
                let L : Loc := ⟨w.heap.size, 0, n, m + 1, false⟩
                have hne : (m + 1) * n ≠ 0 := Nat.mul_ne_zero (by omega) (by omega)
                have hcn : (ofVal zv).cells ≠ [] := by intro x; rw [x] at hzl; simp at hzl; omega
                have ho : ObjRep P (ρ.set b L) (w.alloc (.cells (if (m + 1) * n = 0 then #[] else (Array.range ((m + 1) * n)).map (fun i => zv.cells[i % zv.cells.size]!)) el)) L (.cells n (repeatL (ofVal zv).cells (m + 1))) := by
                  refine ⟨rfl, by simp [L], rfl, _, el, (0, 0), heap_alloc_new w _, Nat.le_refl _, by simp [L, hne, repeatL_length, hzl], by simp [L, hne], fun j v hj => ?_⟩
                  rw [repeatL_get _ hcn, hzl] at hj
                  split at hj
                  · rename_i hlt
                    obtain ⟨y, hy, hdy⟩ := denL_get _ _ hzd _ v hj
                    refine ⟨y, ?_, .inr (den_mono (Ren.le_set hρb) _ _ hdy)⟩
                    simp only [hne, if_false, L, Nat.zero_add]
                    rw [zero_range hzs (by omega) hlt]; simpa using hy
                  · cases hj
                obtain ⟨hs, _⟩ := new_step hnew hr hf _ L rfl ho
                refine ⟨ρ.set b L, _, _, by simpa using hrun, ?_, hs⟩
                simp [den, Ren.set_same, Loc.slice, L, capOr, h1]
              · cases e
            · cases e
          · split at e
            · rename_i b h4 hnew
              cases e
              refine ⟨new_mono hnew, by simp, fun _ hf hr x y hx hy => ?_⟩
              have hx := hX x hx; have hy := hY y hy
              subst hx; subst hy
              have hrun := run_makeSlice (k := k) (k' := k') (l := 0) (m := 0) hu hn hb hzr (Nat.le_refl _) (by omega) (by simp)
              have hρb : ρ b = none := by obtain ⟨rfl, hlt, _⟩ := new_spec hnew; exact hf _ (Nat.le_refl _) hlt
              obtain ⟨hs, _⟩ := new_step hnew hr hf _ _ rfl (harr 0 b _ hρb rfl _ (fun i hi => by omega))
              refine ⟨_, _, _, by simpa using hrun, ?_, hs⟩
              simp [den, Ren.set_same, Loc.slice, capOr]
            · cases e
          · cases e
        · split at e
          · rename_i h1 hneed
            split at e
            · rename_i b h4 hnew
              cases e
              obtain ⟨q, o⟩ := need_qt hneed
              refine ⟨q.mono.trans (new_mono hnew), by simp, fun ho hf hr x y hx hy => ?_⟩
              have hx := hX x hx; have hy := hY y hy
              subst hx; subst hy
              have hc := o (by rw [← new_ob hnew]; exact ho)
              simp at hc
              obtain ⟨⟨⟨c1, c2⟩, c3⟩, c4⟩ := hc
              obtain ⟨l', rfl⟩ := Int.eq_ofNat_of_zero_le c1
              obtain ⟨m', rfl⟩ := Int.eq_ofNat_of_zero_le (Int.le_trans c1 c2)
              have hrun := run_makeSlice (k := k) (k' := k') (l := l') (m := m') hu hn hb hzr (by omega) (by omega) (by rw [← Int.natCast_mul] at c3; omega)
              have hf1 : Fresh ρ h1.nxt h1.hi := by rw [q.nxt, q.hi]; exact hf
              have hr1 : HeapRep P ρ h1.heap w := by rw [q.heap]; exact hr
              have hρb : ρ b = none := by obtain ⟨rfl, hlt, _⟩ := new_spec hnew; exact hf1 _ (Nat.le_refl _) hlt
              simp only [Int.toNat_natCast] at hnew ⊢
              obtain ⟨hs, _⟩ := new_step hnew hr1 hf1 _ _ rfl (harr m' b _ hρb rfl _ (fun i hi j => rfl))
              refine ⟨_, _, _, hrun, ?_, (Step.refl hr q.heap).trans hs q.mono (new_mono hnew)⟩
              simp [den, Ren.set_same, Loc.slice, capOr]; omega
            · cases e
          · cases e
      · cases e
    · cases e
  · cases e

theorem makeSliceE_ok {P : Program} {ρ : Ren} {w : World} {t : TypeId} {len cap r : AV} {h h' : Hp} (e : makeSliceE P t len cap h = some (r, h')) :
    Mono h h' ∧ r ≠ .top ∧ ((∀ p ∈ h'.ob, p) → Fresh ρ h.nxt h.hi → HeapRep P ρ h.heap w → ∀ x y, relS ρ len x → relS ρ cap y → ∃ ρ' w' z, (Instr.makeSlice t x y).run P w = .ok z w' ∧ den ρ' r = some z ∧ Step P ρ h w ρ' h' w') := by
  unfold makeSliceE at e
  split at e
  · rename_i v rr hh
    split at e
    · split at e
      · rename_i k n k2 n2
        obtain ⟨m, ht, o⟩ := makeSlice_ok (P := P) (ρ := ρ) (w := w) e
        have m0 : Mono h { h with hints := rr, ob := (n = 0) :: (n2 = 0) :: h.ob } := ⟨fun p hp => List.mem_cons_of_mem _ (List.mem_cons_of_mem _ hp), Nat.le_refl _, rfl, fun _ x => x⟩
        refine ⟨m0.trans m, ht, fun ho hf hr x y hx hy => ?_⟩
        have e1 : n = 0 := ho _ (m.ob _ (List.mem_cons_self ..))
        have e2 : n2 = 0 := ho _ (m.ob _ (List.mem_cons_of_mem _ (List.mem_cons_self ..)))
        have s0 : Step P ρ h w ρ { h with hints := rr, ob := (n = 0) :: (n2 = 0) :: h.ob } w := Step.refl hr rfl
        subst e1; subst e2
        obtain ⟨ρ', w', z, h1, h2, h3⟩ := o ho hf hr x y (hx.imp (fun q => by cases q) id) (hy.imp (fun q => by cases q) id)
        exact ⟨ρ', w', z, h1, h2, s0.trans h3 m0 m⟩
      · cases e
    · exact makeSlice_ok e
  · exact makeSlice_ok e

/-! ### append -/
def withHeap (w w' : World) : Prop := w'.heap = w.heap

theorem run_append_fits {P : Program} {w w' : World} {t t2 e e2 : TypeId} {a : TypeId} {wd n m cap : Nat} {base : Option Addr} {X : Value} {news : List Value} (hu : P.underlying t = some (.slice e)) (hu2 : P.underlying t2 = some (.slice e2)) (hs : sizeT P e = some wd)
    (hl : (Builtin.lenOf X).run P w = .ok n w) (hnew : (Builtin.firstCells wd n X).run P w = .ok news.toArray w) (hfit : m + n ≤ cap)
    (hst : (match base with | some b => storeCells (b.add (m * wd)) news | none => pure () : Sem Unit).run P w = .ok () w') :
    (Builtin.append_ #[t, t2] a #[.slice base m cap, X]).run P w = .ok (.slice base (m + n) cap) w' := by
  simp only [Builtin.append_, List.getElem?_toArray, List.getElem?_cons_zero, List.getElem?_cons_succ, Sem.run_bind, run_underlying' hu, run_underlying' hu2, Result.andThen_ok, run_sizeOf hs, Sem.run_pure, Bool.false_eq_true, if_false, hl, hfit, if_true, Bool.not_false, hnew]
  cases base with
  | none => simp at hst; subst hst; simp
  | some b => simp only [Sem.run_bind, hst, Result.andThen_ok, Sem.run_pure]

theorem run_append_grows {P : Program} {w : World} {t t2 e e2 : TypeId} {a : TypeId} {wd n m cap by_ : Nat} {base : Option Addr} {X zv : Value} {olds news : List Value} (hu : P.underlying t = some (.slice e)) (hu2 : P.underlying t2 = some (.slice e2)) (hs : sizeT P e = some wd) (hb : bytesT P e = some by_) (hb1 : 1 ≤ by_)
    (hz : ∀ w' : World, (zeroValue e).run P w' = .ok zv w') (hzs : zv.cells.size = wd)
    (hl : (Builtin.lenOf X).run P w = .ok n w) (hnew : (Builtin.firstCells wd n X).run P w.drew = .ok news.toArray w.drew) (hold : (Builtin.firstCells wd m (.slice base m cap)).run P w.drew = .ok olds.toArray w.drew) (hfit : ¬ m + n ≤ cap)
    (hbig : (m + n) * by_ ≤ 70368744177664) :
    ∃ newCap rest, m + n ≤ newCap ∧ rest.length = (newCap - (m + n)) * wd ∧
    (Builtin.append_ #[t, t2] a #[.slice base m cap, X]).run P w = .ok (.slice (some ⟨w.heap.size, 0, none⟩) (m + n) newCap) (w.drew.alloc (.cells (olds ++ news ++ rest).toArray e)) := by
  obtain ⟨i, hi, hib⟩ := bytes_info hb
  have hneed : m + n ≤ 70368744177664 := Nat.le_trans (Nat.le_mul_of_pos_right _ (by omega)) hbig
  have h1 : ¬ (((m + n : Nat) : Int) > IntKind.i64.max ∧ (False ∨ i.bytes = 0)) := by
    rintro ⟨_, h | h⟩
    · exact h
    · omega
  have h2 : ¬ (Builtin.nextslicecap (m + n) cap * i.bytes > 2 ^ 48) := by
    have := nextslicecap_le (need := m + n) (old := cap) (by omega)
    have h3 : Builtin.nextslicecap (m + n) cap * i.bytes ≤ (2 * (m + n)) * by_ := by rw [hib]; exact Nat.mul_le_mul_right _ this
    rw [Nat.mul_assoc] at h3
    omega
  let q : Question := .appendCap (m + n) cap e
  let newCap := q.cut (w.tape w.drawn q)
  have hq : m + n ≤ newCap := by simp only [newCap, q, Question.cut]; omega
  refine ⟨newCap, (Builtin.zeroCells zv.cells (newCap - (m + n))).toList, hq, by simp [Builtin.zeroCells, hzs], ?_⟩
  have hch : (choose (.appendCap (m + n) cap e)).run P w = .ok newCap w.drew := by
    rw [run_choose]
    rw [if_neg (by simp [Question.forced])]
    rfl
  simp only [Builtin.append_, List.getElem?_toArray, List.getElem?_cons_zero, List.getElem?_cons_succ, Sem.run_bind, run_underlying' hu, run_underlying' hu2, Result.andThen_ok, run_sizeOf hs, Sem.run_pure, Bool.false_eq_true, if_false, hl, hfit, Bool.not_false, if_true,
    typeInfo, run_program, hi, false_or]
  rw [if_neg (by simpa using h1)]
  simp only [Sem.run_bind, run_program, Result.andThen_ok, hi, Sem.run_pure]
  rw [if_neg h2]
  simp only [Sem.run_bind, hch, Result.andThen_ok, run_program, hi, Sem.run_pure, run_askRoom, hold, hnew, hz]
  simp only [newRow, Sem.run_bind, run_newObj, Result.andThen_ok, Sem.run_pure, World.alloc_eq]
  congr 3
  exact Array.ext' (by simp)

theorem HeapRep.congr {P : Program} {ρ : Ren} {heap : List (Nat × AO)} {w w' : World} (h : HeapRep P ρ heap w) (e : w'.heap = w.heap) : HeapRep P ρ heap w' :=
  ⟨fun n o hn => let ⟨l, hl, ho⟩ := h.1 n o hn; ⟨l, hl, ho.keep (Le.refl ρ) (fun _ => by rw [e])⟩, h.2⟩

/-- A new name for what a used-up one stood for. -/
theorem HeapRep.reuse {P : Program} {ρ : Ren} {heap : List (Nat × AO)} {w w' : World} (h : HeapRep P ρ heap w) {b n : Nat} {o o' : AO} {L L' : Loc} (hg : get heap b = some o) (ro : o.ro = false) (ro' : o'.ro = false) (hL : ρ b = some L) (hn : ρ n = none)
    (hb : L'.cap ≠ 0 → L'.blk = L.blk ∧ L.cap ≠ 0) (hs : ∀ k, k ≠ L.blk ∨ L'.cap = 0 → w'.heap[k]? = w.heap[k]?) (ho : ObjRep P (ρ.set n L') w' L' o') : HeapRep P (ρ.set n L') ((n, o') :: Ev.del heap b) w' := by
  have hle := Ren.le_set (l := L') hn
  have old : ∀ m x, m ≠ n → get ((n, o') :: Ev.del heap b) m = some x → m ≠ b ∧ get heap m = some x := by
    intro m x hm hx
    have h1 : Nat.beq n m = false := by rw [← Bool.not_eq_true, Nat.beq_eq]; exact fun e => hm e.symm
    simp only [get, h1] at hx
    rw [get_del] at hx
    by_cases hmb : m = b
    · simp [hmb] at hx
    · exact ⟨hmb, by simpa [hmb] using hx⟩
  refine ⟨fun m x hm => ?_, fun m k x y l1 l2 hm hk hne hro h1 h2 c1 c2 => ?_⟩
  · by_cases hmn : m = n
    · subst hmn; simp [get] at hm; subst hm; exact ⟨L', Ren.set_same ρ m L', ho⟩
    · obtain ⟨hmb, hx⟩ := old m x hmn hm
      obtain ⟨l', hl', hx'⟩ := h.1 m x hx
      refine ⟨l', hle _ _ hl', hx'.keep hle (fun c => hs _ ?_)⟩
      by_cases hc : L'.cap = 0
      · exact .inr hc
      · exact .inl (h.2 m b x o l' L hx hg hmb (by rw [ro, Bool.and_false]) hl' hL c (hb hc).2)
  · by_cases hmn : m = n
    · subst hmn
      rw [Ren.set_same] at h1; cases h1
      obtain ⟨hkb, hy⟩ := old k y (Ne.symm hne) hk
      obtain ⟨l', hl', _⟩ := h.1 k y hy
      rw [hle _ _ hl'] at h2; cases h2
      rw [(hb c1).1]
      exact (h.2 k b y o l2 L hy hg hkb (by rw [ro, Bool.and_false]) hl' hL c2 (hb c1).2).symm
    · obtain ⟨hmb, hx⟩ := old m x hmn hm
      obtain ⟨l1', hl1, _⟩ := h.1 m x hx
      rw [hle _ _ hl1] at h1; cases h1
      by_cases hkn : k = n
      · subst hkn
        rw [Ren.set_same] at h2; cases h2
        rw [(hb c2).1]
        exact h.2 m b x o l1 L hx hg hmb (by rw [ro, Bool.and_false]) hl1 hL c1 (hb c2).2
      · obtain ⟨hkb, hy⟩ := old k y hkn hk
        obtain ⟨l2', hl2, _⟩ := h.1 k y hy
        rw [hle _ _ hl2] at h2; cases h2
        exact h.2 m k x y _ _ hx hy hne hro hl1 hl2 c1 c2

/-- An object that stands for a row of cells wherever they lie. -/
def Holds (P : Program) (ρ : Ren) (wd m : Nat) (vs : List Value) (o : AO) : Prop :=
  ∀ (ρ' : Ren) (w' : World) (L : Loc) (c : Array Value) (t : TypeId) (fr : Nat × Nat), Le ρ ρ' → L.wid = wd → L.isnil = false → L.cap ≠ 0 → m ≤ L.cap → w'.heap[L.blk]? = some (.cells c t fr) → fr.2 ≤ fr.1 → L.base + L.cap * wd ≤ c.size →
    (∀ k, k < m * wd → c[L.base + k]? = vs[k]?) → ObjRep P ρ' w' L o

structure AppTy (P : Program) (t t2 e : TypeId) (wd by_ : Nat) : Prop where
  u : P.underlying t = some (.slice e)
  u2 : ∃ e2, P.underlying t2 = some (.slice e2)
  s : sizeT P e = some wd
  b : bytesT P e = some by_
  b1 : 1 ≤ by_
  w1 : 1 ≤ wd
  z : ∃ zv, (∀ w' : World, (zeroValue e).run P w' = .ok zv w') ∧ zv.cells.size = wd

/-- What is appended, and that to which it is: read in whatever world of the same memory. -/
def Reads (P : Program) (w : World) (wd m : Nat) (X : Value) (vs : List Value) : Prop :=
  vs.length = m * wd ∧ (∀ w' : World, (Builtin.lenOf X).run P w' = .ok m w') ∧ ∀ w' : World, w'.heap = w.heap → (Builtin.firstCells wd m X).run P w' = .ok vs.toArray w'

/-- A new row that an append makes. -/
theorem append_makes {P : Program} {ρ : Ren} {w : World} {h h' : Hp} {t t2 e a : TypeId} {wd by_ n m cap b : Nat} {base : Option Addr} {X : Value} {olds news : List Value} {o : AO} (ty : AppTy P t t2 e wd by_) (hX : Reads P w wd n X news) (hS : Reads P w wd m (.slice base m cap) olds)
    (hfit : ¬ m + n ≤ cap) (hbig : (m + n) * by_ ≤ 70368744177664) (hnew : h.new o = some (b, h')) (hf : Fresh ρ h.nxt h.hi) (hr : HeapRep P ρ h.heap w) (ho : Holds P ρ wd (m + n) (olds ++ news) o) :
    ∃ ρ' w' z, (Builtin.append_ #[t, t2] a #[.slice base m cap, X]).run P w = .ok z w' ∧ den ρ' (.ss wd b 0 (m + n) none) = some z ∧ (∃ L, ρ' b = some L ∧ L.isnil = false) ∧ Step P ρ h w ρ' h' w' := by
  obtain ⟨e2, hu2⟩ := ty.u2
  obtain ⟨zv, hz, hzs⟩ := ty.z
  obtain ⟨hX1, hX2, hX3⟩ := hX
  obtain ⟨hS1, hS2, hS3⟩ := hS
  obtain ⟨newCap, rest, hc1, hc2, hrun⟩ := run_append_grows (a := a) ty.u hu2 ty.s ty.b ty.b1 hz hzs (hX2 w) (hX3 w.drew rfl) (hS3 w.drew rfl) hfit hbig
  have hwd := ty.w1
  let L : Loc := ⟨w.heap.size, 0, wd, newCap, false⟩
  have hρb : ρ b = none := by obtain ⟨rfl, hlt, _⟩ := new_spec hnew; exact hf _ (Nat.le_refl _) hlt
  have hpos : 1 ≤ m + n := by omega
  have hsz : (olds ++ news ++ rest).length = newCap * wd := by
    simp only [List.length_append, hX1, hS1, hc2]
    rw [← Nat.add_mul, ← Nat.add_mul]; congr 1; omega
  have hobj : ObjRep P (ρ.set b L) (w.drew.alloc (.cells (olds ++ news ++ rest).toArray e)) L o := by
    refine ho _ _ L _ e (0, 0) (Ren.le_set hρb) rfl rfl (by simp [L]; omega) hc1 (heap_alloc_new w.drew _) (Nat.le_refl _) (by simp only [L, List.size_toArray, hsz]; omega) (fun k hk => ?_)
    simp only [L, Nat.zero_add, List.getElem?_toArray]
    rw [List.getElem?_append_left]
    simp only [List.length_append, hX1, hS1, ← Nat.add_mul]; exact hk
  obtain ⟨hs, _⟩ := new_step hnew (HeapRep.congr hr (w' := w.drew) rfl) hf (.cells (olds ++ news ++ rest).toArray e) L rfl hobj
  refine ⟨ρ.set b L, _, _, hrun, ?_, ⟨L, Ren.set_same _ _ _, rfl⟩, ⟨hs.le, hs.new, hs.rep, ⟨hs.fr.size, hs.fr.same, hs.fr.tape, hs.fr.os, hs.fr.output⟩, hs.own⟩⟩
  simp [den, Ren.set_same, Loc.slice, L, capOr, hc1]

theorem explicit_ok {P : Program} {ρ : Ren} {w : World} {h : Hp} {wd m : Nat} {v : AV} {l : List AV} {X : Value} (e : explicit h wd v = some (m, l)) (hr : HeapRep P ρ h.heap w) (hx : den ρ v = some X) :
    l.length = m * wd ∧ (∀ u ∈ l, u.oneCell = true) ∧ ∃ base cap olds, X = .slice base m cap ∧ m ≤ cap ∧ denL ρ l = some olds ∧ Reads P w wd m X olds := by
  unfold explicit at e
  split at e
  · cases e
    simp [den] at hx; subst hx
    exact ⟨by simp, by simp, none, 0, [], rfl, Nat.le_refl _, rfl, by simp, fun w' => by simp [Builtin.lenOf], fun w' _ => by simp [Builtin.firstCells]⟩
  · rename_i wd' b off len c
    split at e
    · rename_i hemp
      cases e
      obtain ⟨L, hL, hwd, hnil, hcl, hcap, rfl⟩ := den_xs hx
      have hlc : len = 0 ∧ c = some 0 := by
        unfold isEmptyS at hemp; split at hemp
        · exact ⟨rfl, rfl⟩
        · cases hemp
      obtain ⟨rfl, rfl⟩ := hlc
      exact ⟨by simp, by simp, _, _, [], rfl, Nat.le_refl _, rfl, by simp, fun w' => by simp [Builtin.lenOf], fun w' _ => by simp [Builtin.firstCells, loadCells, loadCellsFrom]⟩
    split at e
    · rename_i wd'' cs hg
      split at e
      · rename_i t h1 h2 ht
        split at e
        · rename_i ha
          cases e
          have h1 := Nat.eq_of_beq_eq_true h1; subst h1
          have h2 := Nat.eq_of_beq_eq_true h2; subst h2
          obtain ⟨hlen, rfl⟩ := takeN_eq _ _ _ ht
          rw [dropN_eq] at hlen ha ⊢
          simp only [List.length_drop] at hlen
          have hone := allOne_mem ha
          obtain ⟨L, hL, hwd, hnil, hcl, hcap, rfl⟩ := den_xs hx
          obtain ⟨g0, g1, g2, cc, ty, fr, hb, hf, hc, hc2, hv⟩ := hr.obj hg hL
          let xs : List Value := (List.range (m * wd)).map fun k => (cc[L.base + (off * wd + k)]?).getD undef
          have hxs : ∀ (k : Nat), k < m * wd → cc[L.base + (off * wd + k)]? = xs[k]? := by
            intro k hk
            have : L.base + (off * wd + k) < cc.size := by omega
            simp [xs, hk, Array.getElem?_eq_getElem this]
          refine ⟨by simp; omega, hone, _, _, xs, rfl, hcl, denL_of _ _ (by simp [xs]; omega) (fun k v hk => ?_), by simp [xs], fun w' => by simp [Builtin.lenOf], fun w' hw' => ?_⟩
          · have hkn : k < m * wd := by
              have := (List.getElem?_eq_some_iff.1 hk).1
              simp at this; omega
            have hmem := List.mem_of_getElem? hk
            rw [List.getElem?_take, if_pos hkn, List.getElem?_drop] at hk
            obtain ⟨x, hx, hrel⟩ := hv _ v hk
            rw [hxs k hkn] at hx
            exact ⟨x, hx, relS_den hrel (oneCell_known (hone v hmem))⟩
          · simp only [Builtin.firstCells]
            have hb' : w'.heap[L.blk]? = some (.cells cc ty fr) := by rw [hw']; exact hb
            have := run_loadCells_list (P := P) w' ⟨L.blk, L.base + off * L.wid, none⟩ xs (fun k x hk => by
              have hkn : k < m * wd := by have := (List.getElem?_eq_some_iff.1 hk).1; simpa [xs] using this
              rw [addr_add, cell_of_row w' L.blk _ cc ty fr hb', ← hk, ← hxs k hkn, hwd]
              congr 1; omega)
            rw [show xs.length = m * wd by simp [xs]] at this
            exact this
        · cases e
      · cases e
    · cases e
  · cases e

/-- What a symbolic slice holds. -/
theorem elems_ok {P : Program} {ρ : Ren} {w : World} {h h1 : Hp} {wd m : Nat} {v : AV} {f : Nat → Nat → AV} {sh : List CK} {X : Value} (e : elems h wd v = some (m, f, sh)) (ew : within h v = some h1) (ho : ∀ p ∈ h1.ob, p) (hr : HeapRep P ρ h.heap w) (hx : den ρ v = some X) :
    sh.length = wd ∧ ∃ base cap olds, X = .slice base m cap ∧ m ≤ cap ∧ Reads P w wd m X olds ∧ ∀ i, i < m → ∀ (j : Nat) k, sh[j]? = some k → kindOk k (f i j) ∧ ∃ y, olds[i * wd + j]? = some y ∧ den ρ (f i j) = some y := by
  unfold elems at e
  split at e
  · rename_i wd' b off len c
    split at e
    · rename_i wd'' sh' ro len' f' hg
      split at e
      · rename_i h2 h3
        cases e
        have h2 := Nat.eq_of_beq_eq_true h2; subst h2
        have h3 := Nat.eq_of_beq_eq_true h3; subst h3
        unfold within at ew
        simp only [hg] at ew
        have hlen := (need_qt ew).2 ho
        have hlen : off + m ≤ len' := by simpa using hlen
        obtain ⟨L, hL, hwd, ⟨hnil, rfl, rfl, hc0, rfl⟩ | ⟨hnil, hcl, hcap, rfl⟩⟩ := den_ss hx
        · obtain ⟨g1, g2, g3, g4, g5⟩ := hr.obj hg hL
          exact ⟨g2, none, 0, [], rfl, Nat.le_refl _, ⟨by simp, fun w' => by simp [Builtin.lenOf], fun w' _ => by simp [Builtin.firstCells]⟩, fun i hi => by omega⟩
        · obtain ⟨g1, g2, g3, g4, g5⟩ := hr.obj hg hL
          refine ⟨g2, ?_⟩
          by_cases hm0 : m = 0
          · subst hm0
            refine ⟨_, _, [], rfl, hcl, ⟨by simp, fun w' => by simp [Builtin.lenOf], fun w' _ => by simp [Builtin.firstCells, loadCells, loadCellsFrom]⟩, fun i hi => by omega⟩
          · have hLc : L.cap ≠ 0 := by omega
            obtain ⟨cc, ty, fr, hb, hf, hc2, hv⟩ := g5 hLc
            have hmw : (off + m) * wd ≤ L.cap * wd := Nat.mul_le_mul_right wd (by omega)
            rw [Nat.add_mul] at hmw
            let xs : List Value := (List.range (m * wd)).map fun k => (cc[L.base + (off * wd + k)]?).getD undef
            have hxs : ∀ (k : Nat), k < m * wd → cc[L.base + (off * wd + k)]? = xs[k]? := by
              intro k hk
              have : L.base + (off * wd + k) < cc.size := by omega
              simp [xs, hk, Array.getElem?_eq_getElem this]
            refine ⟨_, _, xs, rfl, hcl, ⟨by simp [xs], fun w' => by simp [Builtin.lenOf], fun w' hw' => ?_⟩, fun i hi j k hk => ?_⟩
            · simp only [Builtin.firstCells]
              have hb' : w'.heap[L.blk]? = some (.cells cc ty fr) := by rw [hw']; exact hb
              have := run_loadCells_list (P := P) w' ⟨L.blk, L.base + off * L.wid, none⟩ xs (fun k x hk => by
                have hkn : k < m * wd := by have := (List.getElem?_eq_some_iff.1 hk).1; simpa [xs] using this
                rw [addr_add, cell_of_row w' L.blk _ cc ty fr hb', ← hk, ← hxs k hkn, hwd]
                congr 1; omega)
              rw [show xs.length = m * wd by simp [xs]] at this
              exact this
            · obtain ⟨a1, y, a2, a3⟩ := hv (off + i) (by omega) j k hk
              refine ⟨a1, y, ?_, a3⟩
              have hj : j < wd := by have := (List.getElem?_eq_some_iff.1 hk).1; omega
              have hij : i * wd + j < m * wd := by
                have : (i + 1) * wd ≤ m * wd := Nat.mul_le_mul_right wd (by omega)
                rw [Nat.succ_mul] at this; omega
              rw [← hxs _ hij, ← a2]
              congr 1
              rw [Nat.add_mul]; omega
      · cases e
    · cases e
  · cases e

theorem storeCells_nil {P : Program} {w : World} (a : Addr) : (storeCells a []).run P w = .ok () w := by simp [storeCells]

/-- An append that has room: what is appended to is used up. -/
theorem append_fits {P : Program} {ρ : Ren} {w : World} {h h' : Hp} {t t2 e a : TypeId} {wd by_ n m cap b b' off : Nat} {S X : Value} {olds news : List Value} {o o' : AO} {c0 : Option Nat} (ty : AppTy P t t2 e wd by_) (hX : Reads P w wd n X news) (hS : Reads P w wd m S olds)
    (hone : ∀ v ∈ news, oneV v = true) (hg : get h.heap b = some o) (hobjk : (∃ cs, o = .cells wd cs) ∨ ∃ sh len f, o = .arr wd sh false len f) (ro' : o'.ro = false)
    (hden : den ρ (.ss wd b off m c0) = some S) {base : Option Addr} (hcap : S = .slice base m cap) (hfit : m + n ≤ cap)
    (hnew : (eatB h b).new o' = some (b', h')) (hf : Fresh ρ h.nxt h.hi) (hr : HeapRep P ρ h.heap w) (ho : Holds P ρ wd (m + n) (olds ++ news) o')
    (ho0 : m + n = 0 → ∀ (ρ' : Ren) (w' : World) (L : Loc), L.wid = wd → L.cap = 0 → ObjRep P ρ' w' L o') :
    ∃ ρ' w' z, (Builtin.append_ #[t, t2] a #[S, X]).run P w = .ok z w' ∧ den ρ' (.ss wd b' 0 (m + n) none) = some z ∧ (m + n ≠ 0 → ∃ L, ρ' b' = some L ∧ L.isnil = false) ∧ Step P ρ h w ρ' h' w' := by
  obtain ⟨e2, hu2⟩ := ty.u2
  obtain ⟨hX1, hX2, hX3⟩ := hX
  obtain ⟨hS1, hS2, hS3⟩ := hS
  have hwd1 := ty.w1
  have ro : o.ro = false := by rcases hobjk with ⟨_, rfl⟩ | ⟨_, _, _, rfl⟩ <;> rfl
  obtain ⟨rfl, hlt, rfl⟩ := new_spec hnew
  have hρb : ρ h.nxt = none := hf _ (Nat.le_refl _) hlt
  have hle : ∀ L', Le ρ (ρ.set h.nxt L') := fun L' => Ren.le_set hρb
  obtain ⟨L, hL, hwd, hL0⟩ := den_ss hden
  have hown : ∀ (L' : Loc), (L'.cap ≠ 0 → L'.blk = L.blk ∧ L.cap ≠ 0) → ∀ n o1 l, get ((h.nxt, o') :: del h.heap b) n = some o1 → (ρ.set h.nxt L') n = some l → l.cap ≠ 0 → l.blk < w.heap.size → ∃ m o' l', get h.heap m = some o' ∧ o'.ro = o1.ro ∧ ρ m = some l' ∧ l'.cap ≠ 0 ∧ l'.blk = l.blk ∧ (m = n ∨ m ∈ add b h.wr) := by
    intro L' hL' n o1 l h1 h2 h3 h4
    by_cases hn : n = h.nxt
    · subst hn; rw [Ren.set_same] at h2; cases h2
      simp [get] at h1; subst h1
      exact ⟨b, o, L, hg, ro.trans ro'.symm, hL, (hL' h3).2, (hL' h3).1.symm, .inr (mem_add.2 (.inl rfl))⟩
    · have : Nat.beq h.nxt n = false := by rw [← Bool.not_eq_true, Nat.beq_eq]; exact fun e => hn e.symm
      simp only [get, this] at h1
      rw [get_del] at h1
      by_cases hnb : n = b
      · simp [hnb] at h1
      · simp [hnb] at h1
        obtain ⟨l0, hl0⟩ := hr.loc h1
        rw [hle L' n l0 hl0] at h2; cases h2
        exact ⟨n, o1, _, h1, rfl, hl0, h3, rfl, .inl rfl⟩
  have hmono : ∀ L' n l, ρ n = none → (ρ.set h.nxt L') n = some l → h.nxt ≤ n ∧ n < h.nxt + 1 := by
    intro L' n l e1 e2
    by_cases hm : n = h.nxt
    · subst hm; omega
    · simp [Ren.set, hm, e1] at e2
  rcases hL0 with ⟨hnil, rfl, rfl, hc0, rfl⟩ | ⟨hnil, hcl, hcapL, rfl⟩
  ·
    simp at hcap; obtain ⟨rfl, hcap⟩ := hcap; subst hcap
    have hn0 : n = 0 := by omega
    subst hn0
    have hnews : news = [] := by simpa using hX1
    subst hnews
    have hrun := run_append_fits (a := a) (w' := w) (m := 0) (cap := 0) (base := none) (X := X) ty.u hu2 ty.s (hX2 w) (hX3 w rfl) (Nat.le_refl _) (by simp)
    let L' : Loc := ⟨0, 0, wd, 0, true⟩
    refine ⟨ρ.set h.nxt L', w, _, hrun, by simp [den, eatB, Ren.set_same, Loc.slice, L', capOr], fun h => absurd rfl h, ⟨hle L', hmono L', ?_, Fr.refl _ _, hown L' (by simp [L'])⟩⟩
    exact HeapRep.reuse hr hg ro ro' hL hρb (by simp [L']) (fun _ _ => rfl) (ho0 rfl _ _ L' rfl rfl)
  · simp at hcap; obtain ⟨rfl, hcap⟩ := hcap
    by_cases hcap0 : cap = 0
    · subst hcap0
      have hm0 : m = 0 := by omega
      have hn0 : n = 0 := by omega
      subst hm0; subst hn0
      have hnews : news = [] := by simpa using hX1
      subst hnews
      have hrun := run_append_fits (a := a) (w' := w) (m := 0) (cap := 0) (base := some ⟨L.blk, L.base + off * L.wid, none⟩) (X := X) ty.u hu2 ty.s (hX2 w) (hX3 w rfl) (Nat.le_refl _) (storeCells_nil _)
      let L' : Loc := ⟨L.blk, L.base + off * L.wid, wd, 0, false⟩
      refine ⟨ρ.set h.nxt L', w, _, by rw [hcap]; exact hrun, by simp [den, eatB, Ren.set_same, Loc.slice, L', capOr], fun h => absurd rfl h, ⟨hle L', hmono L', ?_, Fr.refl _ _, hown L' (by simp [L'])⟩⟩
      exact HeapRep.reuse hr hg ro ro' hL hρb (by simp [L']) (fun _ _ => rfl) (ho0 rfl _ _ L' rfl rfl)
    · have hLc : L.cap ≠ 0 := by omega
      -- the block
      have hblk : ∃ c ty fr, w.heap[L.blk]? = some (.cells c ty fr) ∧ fr.2 ≤ fr.1 ∧ L.base + L.cap * wd ≤ c.size := by
        rcases hobjk with ⟨cs, rfl⟩ | ⟨sh, len, f, rfl⟩
        · obtain ⟨_, _, _, c, t, fr, hb, hf, _, hc2, _⟩ := hr.obj hg hL
          exact ⟨c, t, fr, hb, hf, hc2⟩
        · obtain ⟨_, _, _, _, g5⟩ := hr.obj hg hL
          obtain ⟨c, t, fr, hb, hf, hc2, _⟩ := g5 hLc
          exact ⟨c, t, fr, hb, hf rfl, hc2⟩
      obtain ⟨c, cty, fr, hb, hfr, hc2⟩ := hblk
      have hmul : (off + (m + n)) * wd ≤ L.cap * wd := Nat.mul_le_mul_right wd (by omega)
      rw [Nat.add_mul, Nat.add_mul] at hmul
      obtain ⟨w', c', r1, r2, r3, r4, r5, r6, r7, r8, r9⟩ := run_storeCells (P := P) L.blk (L.base + off * L.wid + m * wd) cty fr hfr news 0 w c hb hone (by rw [hwd, hX1]; omega)
      have hrun := run_append_fits (a := a) (w' := w') (m := m) (cap := cap) (base := some ⟨L.blk, L.base + off * L.wid, none⟩) (X := X) ty.u hu2 ty.s (hX2 w) (hX3 w rfl) hfit (by simp only [addr_add]; exact r1)
      let L' : Loc := ⟨L.blk, L.base + off * L.wid, wd, cap, false⟩
      have hold : ∀ k, k < m * wd → c[L.base + off * wd + k]? = olds[k]? := by
        intro k hk
        have h3 := hS3 w rfl
        simp only [Builtin.firstCells] at h3
        have hlt : L.base + off * wd + k < c.size := by omega
        have := run_loadCells (P := P) w ⟨L.blk, L.base + off * L.wid, none⟩ (m * wd) (fun j => (c[L.base + off * wd + j]?).getD undef) (fun j hj => by
          rw [addr_add, cell_of_row w L.blk _ c cty fr hb, hwd]
          have : L.base + off * wd + j < c.size := by omega
          simp [Array.getElem?_eq_getElem this])
        rw [this] at h3
        have h4 : ((List.range (m * wd)).map fun j => (c[L.base + off * wd + j]?).getD undef) = olds := by
          have h3' := congrArg (fun r => match r with | Result.ok x _ => Array.toList x | _ => []) h3
          simpa using h3'
        rw [← h4]
        simp [hk, Array.getElem?_eq_getElem hlt]
      have hobj : ObjRep P (ρ.set h.nxt L') w' L' o' := by
        refine ho _ _ L' c' cty fr (hle L') rfl rfl hcap0 hfit r2 hfr ?_ (fun k hk => ?_)
        · have : (off + cap) * wd ≤ L.cap * wd := Nat.mul_le_mul_right wd (by omega)
          rw [Nat.add_mul] at this
          simp only [L']
          rw [r3, hwd]; omega
        · simp only [L']
          rw [r4, hwd]
          by_cases hin : k < m * wd
          · rw [if_neg (by omega), List.getElem?_append_left (by omega)]
            exact hold k hin
          · rw [Nat.add_mul] at hk
            rw [if_pos (by omega), List.getElem?_append_right (by omega)]
            congr 1; omega
      refine ⟨ρ.set h.nxt L', w', _, by rw [hcap]; exact hrun, by simp [den, eatB, Ren.set_same, Loc.slice, L', capOr, hfit], fun _ => ⟨L', Ren.set_same _ _ _, rfl⟩, ⟨hle L', hmono L', ?_, ?_, hown L' (fun _ => ⟨rfl, hLc⟩)⟩⟩
      · exact HeapRep.reuse hr hg ro ro' hL hρb (fun _ => ⟨rfl, hLc⟩) (fun k hk => by
          rcases hk with hk | hk
          · exact r5 k hk
          · exact absurd hk hcap0) hobj
      · refine ⟨by omega, fun b' hb' hn => r5 b' (fun x => hn ⟨b, mem_add.2 (.inl rfl), o, L, hg, ro, hL, hLc, x.symm⟩), r7, r8, r9⟩

theorem holds_cells {P : Program} {ρ : Ren} {wd m : Nat} {l : List AV} {vs : List Value} (hl : l.length = m * wd) (hd : denL ρ l = some vs) : Holds P ρ wd m vs (.cells wd l) := by
  intro ρ' w' L c t fr hle hwd hnil hcap hm hb hfr hsz hc
  have hmw : m * wd ≤ L.cap * wd := Nat.mul_le_mul_right wd hm
  refine ⟨hnil, hcap, hwd, c, t, fr, hb, hfr, by omega, hsz, fun j v hj => ?_⟩
  have hjl : j < m * wd := by have := (List.getElem?_eq_some_iff.1 hj).1; omega
  obtain ⟨x, hx, hdx⟩ := denL_get _ _ hd j v hj
  exact ⟨x, by rw [hc j hjl]; exact hx, .inr (den_mono hle _ _ hdx)⟩

theorem holds_arr {P : Program} {ρ : Ren} {wd m : Nat} {sh : List CK} {f : Nat → Nat → AV} {vs : List Value} (hsh : sh.length = wd) (hd : ∀ i, i < m → ∀ (j : Nat) k, sh[j]? = some k → kindOk k (f i j) ∧ ∃ y, vs[i * wd + j]? = some y ∧ den ρ (f i j) = some y) :
    Holds P ρ wd m vs (.arr wd sh false m f) := by
  intro ρ' w' L c t fr hle hwd hnil hcap hm hb hfr hsz hc
  refine ⟨hwd, hsh, hm, fun hx => absurd (hnil.symm.trans hx) (by simp), fun _ => ⟨c, t, fr, hb, fun _ => hfr, hsz, fun i hi j k hk => ?_⟩⟩
  have hj : j < wd := by have := (List.getElem?_eq_some_iff.1 hk).1; omega
  have hij : i * wd + j < m * wd := by
    have : (i + 1) * wd ≤ m * wd := Nat.mul_le_mul_right wd (by omega)
    rw [Nat.succ_mul] at this; omega
  obtain ⟨a, y, hy, hdy⟩ := hd i hi j k hk
  exact ⟨a, y, by rw [Nat.add_assoc, hc _ hij]; exact hy, den_mono hle _ _ hdy⟩

theorem holds_arr0 {P : Program} {wd : Nat} {sh : List CK} {f : Nat → Nat → AV} (hsh : sh.length = wd) (ρ' : Ren) (w' : World) (L : Loc) (hw : L.wid = wd) (hc : L.cap = 0) : ObjRep P ρ' w' L (.arr wd sh false 0 f) :=
  ⟨hw, hsh, Nat.zero_le _, fun _ => hc, fun h => absurd hc h⟩

theorem eatB_mono (h : Hp) (b : Nat) : Mono h (eatB h b) := ⟨fun _ x => x, Nat.le_refl _, rfl, fun n hn => mem_add.2 (.inr hn)⟩

theorem get_del_some {α : Type} {l : List (Nat × α)} {b m : Nat} {o : α} (h : get (del l b) m = some o) : get l m = some o := by
  rw [get_del] at h
  by_cases hm : m = b
  · simp [hm] at h
  · simpa [hm] using h

theorem Step.uneat {P : Program} {ρ ρ' : Ren} {h h' : Hp} {w w' : World} {b : Nat} (s : Step P ρ (eatB h b) w ρ' h' w') : Step P ρ h w ρ' h' w' where
  le := s.le
  new := s.new
  rep := s.rep
  fr := ⟨s.fr.size, fun k hk hn => s.fr.same k hk (fun ⟨m, hm, o, l, h1, h2⟩ => hn ⟨m, hm, o, l, get_del_some h1, h2⟩), s.fr.tape, s.fr.os, s.fr.output⟩
  own := fun n o l h1 h2 h3 h4 => let ⟨m, o', l', g1, g2⟩ := s.own n o l h1 h2 h3 h4; ⟨m, o', l', get_del_some g1, g2⟩

/-- What it means that an append is served. -/
def AppOk (P : Program) (ρ : Ren) (w : World) (h h' : Hp) (t t2 : TypeId) (S X : Value) (r : AV) : Prop :=
  ∀ a, ∃ ρ' w' z, (Builtin.append_ #[t, t2] a #[S, X]).run P w = .ok z w' ∧ den ρ' r = some z ∧ Step P ρ h w ρ' h' w'

theorem noRoom_cap {ρ : Ren} {s : AV} {base : Option Addr} {m cap : Nat} (hs : noRoom s = true) (hd : den ρ s = some (.slice base m cap)) : cap = 0 := by
  unfold noRoom at hs
  split at hs
  · simp [den] at hd; exact hd.2.2.symm
  · obtain ⟨L, _, _, _, _, _, h⟩ := den_xs hd
    simp [capOr] at h; exact h.2.2
  · obtain ⟨L, _, _, ⟨_, _, _, _, h⟩ | ⟨_, _, _, h⟩⟩ := den_ss hd
    · simp at h; exact h.2.2
    · simp [capOr] at h; exact h.2.2
  · cases hs

/-- A slice's value written back as it stands. -/
theorem append_nothing {P : Program} {w : World} {t t2 e a : TypeId} {wd by_ m cap : Nat} {base : Option Addr} {X : Value} {news : List Value} (ty : AppTy P t t2 e wd by_) (hX : Reads P w wd 0 X news) (hm : m ≤ cap) :
    (Builtin.append_ #[t, t2] a #[.slice base m cap, X]).run P w = .ok (.slice base m cap) w := by
  obtain ⟨e2, hu2⟩ := ty.u2
  obtain ⟨hX1, hX2, hX3⟩ := hX
  have hnews : news = [] := by simpa using hX1
  subst hnews
  exact run_append_fits (a := a) (w' := w) ty.u hu2 ty.s (hX2 w) (hX3 w rfl) hm (by cases base <;> simp [storeCells])

theorem appendXX_ok {P : Program} {ρ : Ren} {w : World} {h h' : Hp} {t t2 e : TypeId} {wd by_ m n : Nat} {s x r : AV} {l rr : List AV} (ty : AppTy P t t2 e wd by_) (es : explicit h wd s = some (m, l)) (ex : explicit h wd x = some (n, rr)) (e : appendXX wd by_ s m l n rr h = some (r, h')) :
    Mono h h' ∧ (Fresh ρ h.nxt h.hi → HeapRep P ρ h.heap w → ∀ S X, den ρ s = some S → den ρ x = some X → AppOk P ρ w h h' t t2 S X r) := by
  unfold appendXX at e
  split at e
  · cases e
    refine ⟨.refl _, fun hf hr S X hS hX a => ?_⟩
    obtain ⟨_, _, base, cap, olds, rfl, hmc, _, _⟩ := explicit_ok es hr hS
    obtain ⟨_, _, _, _, news, _, _, _, hX'⟩ := explicit_ok ex hr hX
    exact ⟨ρ, w, _, append_nothing ty hX' hmc, hS, .refl hr rfl⟩
  · rename_i n
    split at e
    · cases e
    rename_i hbig
    have hbig : (m + (n + 1)) * by_ ≤ 70368744177664 := by simpa using hbig
    split at e
    · rename_i hno
      split at e
      · rename_i b h1 hnew
        cases e
        refine ⟨new_mono hnew, fun hf hr S X hS hX a => ?_⟩
        obtain ⟨hl, _, base, cap, olds, rfl, hmc, hdl, hS'⟩ := explicit_ok es hr hS
        obtain ⟨hrl, _, bx, cx, news, rfl, _, hdr, hX'⟩ := explicit_ok ex hr hX
        have hc0 := noRoom_cap hno hS
        obtain ⟨ρ', w', z, h1, h2, ⟨L, hL, hnil⟩, h3⟩ := append_makes (a := a) ty hX' hS' (by omega) hbig hnew hf hr (holds_cells (by simp [hl, hrl, Nat.add_mul]) (denL_append _ _ _ _ hdl hdr))
        refine ⟨ρ', w', z, h1, ?_, h3⟩
        simp only [den, hL, hnil] at h2 ⊢; exact h2
      · cases e
    · rename_i hroom
      split at e
      · rename_i b hb
        split at e
        · rename_i b' h1 hnew
          cases e
          refine ⟨(eatB_mono h b).trans (new_mono hnew), fun hf hr S X hS hX a => ?_⟩
          obtain ⟨hl, _, base, cap, olds, hSe, hmc, hdl, hS'⟩ := explicit_ok es hr hS
          obtain ⟨hrl, hone, bx, cx, news, rfl, _, hdr, hX'⟩ := explicit_ok ex hr hX
          have hholds := holds_cells (P := P) (ρ := ρ) (wd := wd) (m := m + (n + 1)) (l := l ++ rr) (by simp [hl, hrl, Nat.add_mul]) (denL_append _ _ _ _ hdl hdr)
          have honeV : ∀ v ∈ news, oneV v = true := by
            intro v hv
            obtain ⟨k, hk⟩ := List.mem_iff_getElem?.1 hv
            have hlen := denL_length _ _ hdr
            have hlt := (List.getElem?_eq_some_iff.1 hk).1
            obtain ⟨y, hy, hd⟩ := denL_get _ _ hdr k rr[k] (List.getElem?_eq_getElem (by omega))
            rw [hk] at hy; cases hy
            exact oneCell_den (hone _ (List.getElem_mem _)) hd
          -- the block that is appended to
          cases s with
          | xs wd' b0 off len c =>
            simp [blockOf] at hb; subst hb
            unfold explicit at es
            simp only at es
            split at es
            · rename_i hemp
              unfold isEmptyS at hemp; split at hemp
              · simp [noRoom] at hroom
              · cases hemp
            split at es
            · rename_i wd'' cs hg
              split at es
              · rename_i t0 q1 q2 q3
                have q1 := Nat.eq_of_beq_eq_true q1; subst q1
                have q2 := Nat.eq_of_beq_eq_true q2; subst q2
                split at es
                · cases es
                  have hden : den ρ (.ss wd b0 off m c) = some S := by
                    obtain ⟨L, hL, hwd, hnil, h1, h2, h3⟩ := den_xs hS
                    simp only [den, hL, hnil] at hS ⊢; exact hS
                  by_cases hfit : m + (n + 1) ≤ cap
                  · obtain ⟨ρ', w', z, h1, h2, h3, h4⟩ := append_fits (a := a) ty hX' hS' honeV hg (.inl ⟨cs, rfl⟩) rfl hden (cap := cap) hSe hfit hnew hf hr hholds (fun h => by omega)
                    obtain ⟨L, hL, hnil⟩ := h3 (by omega)
                    refine ⟨ρ', w', z, h1, ?_, h4⟩
                    simp only [den, hL, hnil] at h2 ⊢; exact h2
                  · subst hSe
                    obtain ⟨ρ', w', z, h1, h2, ⟨L, hL, hnil⟩, h3⟩ := append_makes (a := a) (h := eatB h b0) ty hX' hS' hfit hbig hnew hf (HeapRep.del hr b0) hholds
                    refine ⟨ρ', w', z, h1, ?_, h3.uneat⟩
                    simp only [den, hL, hnil] at h2 ⊢; exact h2
                · cases es
              · cases es
            · cases es
          | ss wd' b0 off len c => simp [explicit] at es
          | _ => simp [blockOf] at hb
        · cases e
      · cases e

theorem growOld_ok {P : Program} {ρ : Ren} {w : World} {h h' : Hp} {t t2 e : TypeId} {wd by_ n : Nat} {sh : List CK} {g : Nat → Nat → AV} {s r : AV} (ty : AppTy P t t2 e wd by_) (hno : noRoom s = true) (hsh : sh.length = wd) (e : growOld wd sh by_ n g s h = some (r, h')) :
    Mono h h' ∧ r ≠ .top ∧ ((∀ p ∈ h'.ob, p) → Fresh ρ h.nxt h.hi → HeapRep P ρ h.heap w → ∀ base m cap X news, den ρ s = some (.slice base m cap) → m ≤ cap → Reads P w wd n X news →
      (∀ i, i < n → ∀ (j : Nat) k, sh[j]? = some k → kindOk k (g i j) ∧ ∃ y, news[i * wd + j]? = some y ∧ den ρ (g i j) = some y) → AppOk P ρ w h h' t t2 (.slice base m cap) X r) := by
  unfold growOld at e
  split at e
  · rename_i h1 hn
    obtain ⟨q1, o1⟩ := need_qt hn
    split at e
    · rename_i h2 hd
      cases e
      obtain ⟨q2, o2⟩ := dec_qt hd
      refine ⟨q1.mono.trans q2.mono, ?_, fun ho hf hr base m cap X news hS hmc hX hg a => ?_⟩
      · intro e; subst e; simp [noRoom] at hno
      have := o2 ho
      simp at this
      have hn0 : n = 0 := by simpa using this
      subst hn0
      exact ⟨ρ, w, _, append_nothing ty hX hmc, hS, .refl hr (q2.heap.trans q1.heap)⟩
    · rename_i h2 hd
      obtain ⟨q2, o2⟩ := dec_qt hd
      split at e
      · rename_i b h3 hnew
        cases e
        have q := q1.trans q2
        refine ⟨q.mono.trans (new_mono hnew), by simp, fun ho hf hr base m cap X news hS hmc hX hg a => ?_⟩
        have ho2 : ∀ p ∈ h2.ob, p := by rw [← new_ob hnew]; exact ho
        have := o2 ho2
        simp at this
        have hn0 : n ≠ 0 := by intro e; subst e; simp at this
        have hbig := o1 (fun p hp => ho2 p (q2.ob p hp))
        have hbig : n * by_ ≤ 70368744177664 := by simpa using hbig
        have hc0 := noRoom_cap hno hS
        have hm0 : m = 0 := by omega
        subst hc0; subst hm0
        have hf2 : Fresh ρ h2.nxt h2.hi := by rw [q.nxt, q.hi]; exact hf
        have hr2 : HeapRep P ρ h2.heap w := by rw [q.heap]; exact hr
        have hS0 : Reads P w wd 0 (.slice base 0 0) [] := ⟨by simp, fun w' => by simp [Builtin.lenOf], fun w' _ => by cases base <;> simp [Builtin.firstCells, loadCells, loadCellsFrom]⟩
        obtain ⟨ρ', w', z, h1, h2', _, h3⟩ := append_makes (a := a) (m := 0) (n := n) (olds := []) ty hX hS0 (by omega) (by simpa using hbig) hnew hf2 hr2 (by simpa using holds_arr hsh hg)
        refine ⟨ρ', w', z, h1, by simpa using h2', (Step.refl hr q.heap).trans h3 q.mono (new_mono hnew)⟩
      · cases e
    · cases e
  · cases e

theorem Step.of_hints {P : Program} {ρ ρ' : Ren} {h h' : Hp} {w w' : World} {r : List Hint} (s : Step P ρ { h with hints := r } w ρ' h' w') : Step P ρ h w ρ' h' w' := ⟨s.le, s.new, s.rep, s.fr, s.own⟩
theorem growFresh_cases {wd by_ n : Nat} {sh : List CK} {g : Nat → Nat → AV} {s : AV} {h : Hp} {x : AV × Hp} (e : growFresh wd sh by_ n g s h = some x) : growOld wd sh by_ n g s h = some x ∨ (s = .nils ∧ ∃ r, growNil wd sh by_ n g { h with hints := r } = some x) := by
  unfold growFresh at e
  split at e
  · split at e
    · split at e
      · exact .inr ⟨rfl, _, e⟩
      · exact .inl e
    · exact .inl e
  · exact .inl e
theorem growOld_mono {wd by_ n : Nat} {sh : List CK} {g : Nat → Nat → AV} {s : AV} {h : Hp} {x : AV × Hp} (e : growOld wd sh by_ n g s h = some x) : Mono h x.2 := by
  unfold growOld at e
  split at e
  · rename_i h2 hn2
    have q2 := (need_qt hn2).1
    split at e
    · rename_i h3 hd3; cases e; exact q2.mono.trans (dec_qt hd3).1.mono
    · rename_i h3 hd3
      split at e
      · rename_i b h4 hnw; cases e; exact q2.mono.trans ((dec_qt hd3).1.mono.trans (new_mono hnw))
      · cases e
    · cases e
  · cases e
theorem hints_mono (h : Hp) (r : List Hint) : Mono h { h with hints := r } := ⟨fun _ x => x, Nat.le_refl _, rfl, fun _ x => x⟩
theorem hints_mono' {h h' : Hp} {r : List Hint} (m : Mono { h with hints := r } h') : Mono h h' := (hints_mono h r).trans m
theorem growNil_mono {wd by_ n : Nat} {sh : List CK} {g : Nat → Nat → AV} {h : Hp} {x : AV × Hp} (e : growNil wd sh by_ n g h = some x) : Mono h x.2 := by
  unfold growNil at e
  split at e
  · rename_i h2 hn2
    split at e
    · rename_i b h4 hnw; cases e; exact (need_qt hn2).1.mono.trans (new_mono hnw)
    · cases e
  · cases e
theorem growFresh_mono {wd by_ n : Nat} {sh : List CK} {g : Nat → Nat → AV} {s : AV} {h : Hp} {x : AV × Hp} (e : growFresh wd sh by_ n g s h = some x) : Mono h x.2 := by
  rcases growFresh_cases e with e | ⟨_, r, e⟩
  · exact growOld_mono e
  · exact hints_mono' (growNil_mono e)

/-- A name that stands for a nil slice. -/
theorem HeapRep.newNil {P : Program} {ρ : Ren} {heap : List (Nat × AO)} {w : World} (h : HeapRep P ρ heap w) {n : Nat} {o : AO} {l : Loc} (hf : ρ n = none) (hc : l.cap = 0) (ho : ObjRep P (ρ.set n l) w l o) : HeapRep P (ρ.set n l) ((n, o) :: heap) w := by
  have hle := Ren.le_set (l := l) hf
  have old : ∀ m x, m ≠ n → get ((n, o) :: heap) m = some x → get heap m = some x := by
    intro m x hm hx
    have : Nat.beq n m = false := by rw [← Bool.not_eq_true, Nat.beq_eq]; exact fun e => hm e.symm
    simpa [get, this] using hx
  refine ⟨fun m x hm => ?_, fun m k x y l1 l2 hm hk hne hro h1 h2 c1 c2 => ?_⟩
  · by_cases hmn : m = n
    · subst hmn; simp [get] at hm; subst hm; exact ⟨l, Ren.set_same ρ m l, ho⟩
    · obtain ⟨l', hl', hx⟩ := h.1 m x (old m x hmn hm)
      exact ⟨l', hle _ _ hl', hx.keep hle (fun c => rfl)⟩
  · by_cases hmn : m = n
    · subst hmn
      rw [Ren.set_same] at h1; cases h1
      exact (c1 hc).elim
    · obtain ⟨l1', hl1, hx1⟩ := h.1 m x (old m x hmn hm)
      rw [hle _ _ hl1] at h1; cases h1
      by_cases hkn : k = n
      · subst hkn
        rw [Ren.set_same] at h2; cases h2
        exact (c2 hc).elim
      · obtain ⟨l2', hl2, hx2⟩ := h.1 k y (old k y hkn hk)
        rw [hle _ _ hl2] at h2; cases h2
        exact h.2 m k x y _ _ (old m x hmn hm) (old k y hkn hk) hne hro hl1 hl2 c1 c2

theorem growNil_ok {P : Program} {ρ : Ren} {w : World} {h h' : Hp} {t t2 e : TypeId} {wd by_ n : Nat} {sh : List CK} {g : Nat → Nat → AV} {r : AV} (ty : AppTy P t t2 e wd by_) (hsh : sh.length = wd) (e : growNil wd sh by_ n g h = some (r, h')) :
    Mono h h' ∧ r ≠ .top ∧ ((∀ p ∈ h'.ob, p) → Fresh ρ h.nxt h.hi → HeapRep P ρ h.heap w → ∀ base m cap X news, den ρ .nils = some (.slice base m cap) → m ≤ cap → Reads P w wd n X news →
      (∀ i, i < n → ∀ (j : Nat) k, sh[j]? = some k → kindOk k (g i j) ∧ ∃ y, news[i * wd + j]? = some y ∧ den ρ (g i j) = some y) → AppOk P ρ w h h' t t2 (.slice base m cap) X r) := by
  have hmono := growNil_mono e
  unfold growNil at e
  split at e
  · rename_i h1 hn
    obtain ⟨q, o1⟩ := need_qt hn
    split at e
    · rename_i b h3 hnew
      cases e
      refine ⟨hmono, by simp, fun ho hf hr base m cap X news hS hmc hX hg a => ?_⟩
      have hnn := hnew
      have ho2 : ∀ p ∈ h1.ob, p := by rw [← new_ob hnew]; exact ho
      have hbig : n * by_ ≤ 70368744177664 := by simpa using o1 ho2
      obtain ⟨rfl, rfl, rfl⟩ : base = none ∧ m = 0 ∧ cap = 0 := by simp [den] at hS; exact ⟨hS.1.symm, hS.2.1.symm, hS.2.2.symm⟩
      have hf2 : Fresh ρ h1.nxt h1.hi := by rw [q.nxt, q.hi]; exact hf
      have hr2 : HeapRep P ρ h1.heap w := by rw [q.heap]; exact hr
      by_cases hn0 : n = 0
      · subst hn0
        -- a name of nothing
        unfold Hp.new at hnn
        split at hnn
        · rename_i hlt
          cases hnn
          have hlt : h1.nxt < h1.hi := by simpa [Nat.blt_eq] using hlt
          have hfr : ρ h1.nxt = none := hf2 _ (Nat.le_refl _) hlt
          let L : Loc := ⟨0, 0, wd, 0, true⟩
          have hob : ObjRep P (ρ.set h1.nxt L) w L (.arr wd sh false 0 g) := ⟨rfl, hsh, Nat.le_refl _, fun _ => rfl, fun h => (h rfl).elim⟩
          refine ⟨ρ.set h1.nxt L, w, _, append_nothing ty hX hmc, ?_, ?_⟩
          · simp [den, Ren.set_same, L, Loc.slice, capOr]
          · refine ⟨Ren.le_set hfr, ?_, ?_, Fr.refl _ _, ?_⟩
            · intro k l' e1 e2
              by_cases hm : k = h1.nxt
              · subst hm; exact ⟨by rw [q.nxt]; exact Nat.le_refl _, by simp⟩
              · simp [Ren.set, hm, e1] at e2
            · exact HeapRep.newNil hr2 hfr rfl hob
            · intro k o' l' g1 g2 g3 g4
              by_cases hm : k = h1.nxt
              · subst hm; rw [Ren.set_same] at g2; cases g2
                exact (g3 rfl).elim
              · have h1' : get h1.heap k = some o' := by
                  have : Nat.beq h1.nxt k = false := by rw [← Bool.not_eq_true, Nat.beq_eq]; exact fun e => hm e.symm
                  simpa [get, this] using g1
                obtain ⟨l0, hl0⟩ := hr2.loc h1'
                rw [Ren.le_set hfr k l0 hl0] at g2; cases g2
                exact ⟨k, o', _, by rw [← q.heap]; exact h1', rfl, hl0, g3, rfl, .inl rfl⟩
        · cases hnn
      · have hS0 : Reads P w wd 0 (.slice none 0 0) [] := ⟨by simp, fun w' => by simp [Builtin.lenOf], fun w' _ => by simp [Builtin.firstCells, loadCells, loadCellsFrom]⟩
        obtain ⟨ρ', w', z, h1', h2', _, h3'⟩ := append_makes (a := a) (m := 0) (n := n) (olds := []) ty hX hS0 (by omega) (by simpa using hbig) hnew hf2 hr2 (by simpa using holds_arr hsh hg)
        exact ⟨ρ', w', z, h1', by simpa using h2', (Step.refl hr q.heap).trans h3' q.mono (new_mono hnew)⟩
    · cases e
  · cases e

theorem growFresh_ok {P : Program} {ρ : Ren} {w : World} {h h' : Hp} {t t2 e : TypeId} {wd by_ n : Nat} {sh : List CK} {g : Nat → Nat → AV} {s r : AV} (ty : AppTy P t t2 e wd by_) (hno : noRoom s = true) (hsh : sh.length = wd) (e : growFresh wd sh by_ n g s h = some (r, h')) :
    Mono h h' ∧ r ≠ .top ∧ ((∀ p ∈ h'.ob, p) → Fresh ρ h.nxt h.hi → HeapRep P ρ h.heap w → ∀ base m cap X news, den ρ s = some (.slice base m cap) → m ≤ cap → Reads P w wd n X news →
      (∀ i, i < n → ∀ (j : Nat) k, sh[j]? = some k → kindOk k (g i j) ∧ ∃ y, news[i * wd + j]? = some y ∧ den ρ (g i j) = some y) → AppOk P ρ w h h' t t2 (.slice base m cap) X r) := by
  rcases growFresh_cases e with e | ⟨rfl, rr, e⟩
  · exact growOld_ok ty hno hsh e
  · obtain ⟨a, b, c⟩ := growNil_ok (ρ := ρ) (w := w) ty hsh e
    refine ⟨hints_mono' a, b, fun ho hf hr base m cap X news hS hmc hX hg a => ?_⟩
    obtain ⟨ρ', w', z, r1, r2, r3⟩ := c ho hf hr base m cap X news hS hmc hX hg a
    exact ⟨ρ', w', z, r1, r2, r3.of_hints⟩

theorem fitsRows_ok {sh : List CK} {l : List AV} : ∀ (n : Nat), fitsRows sh l n = true → ∀ i, i < n → ∀ (j : Nat) k, sh[j]? = some k → ∃ v, l[i * sh.length + j]? = some v ∧ kindOk k v
  | 0, _, i, hi, _, _, _ => by omega
  | n + 1, h, i, hi, j, k, hk => by
    simp only [fitsRows] at h
    split at h
    · rename_i t ht
      split at h
      · rename_i hf
        by_cases hin : i = n
        · subst hin
          obtain ⟨hlen, rfl⟩ := takeN_eq _ _ _ ht
          rw [dropN_eq] at hlen hf
          simp only [List.length_drop] at hlen
          have hj : j < sh.length := (List.getElem?_eq_some_iff.1 hk).1
          have hlt : i * sh.length + j < l.length := by omega
          refine ⟨l[i * sh.length + j], List.getElem?_eq_getElem hlt, ?_⟩
          refine fitsAll_kind hf j k _ (by simpa using hk) ?_
          rw [List.getElem?_take, if_pos hj, List.getElem?_drop]
          exact List.getElem?_eq_getElem hlt
        · exact fitsRows_ok n h i (by omega) j k hk
      · cases h
    · cases h

theorem ckBeq_eq : ∀ {a b : CK}, ckBeq a b = true → a = b
  | .int k, .int k', h => by simp [ckBeq] at h; rw [h]
  | .bool, .bool, _ => rfl
  | .val, .val, _ => rfl
  | .int _, .bool, h => by simp [ckBeq] at h
  | .int _, .val, h => by simp [ckBeq] at h
  | .bool, .int _, h => by simp [ckBeq] at h
  | .bool, .val, h => by simp [ckBeq] at h
  | .val, .int _, h => by simp [ckBeq] at h
  | .val, .bool, h => by simp [ckBeq] at h

theorem shBeq_eq : ∀ {a b : List CK}, shBeq a b = true → a = b
  | [], [], _ => rfl
  | [], _ :: _, h => by simp [shBeq] at h
  | _ :: _, [], h => by simp [shBeq] at h
  | x :: a, y :: b, h => by
    simp only [shBeq] at h
    split at h
    · rename_i h1; rw [ckBeq_eq h1, shBeq_eq h]
    · cases h

theorem appendS_ok {P : Program} {ρ : Ren} {w : World} {h h' : Hp} {t t2 e : TypeId} {wd by_ m n : Nat} {sh : List CK} {f g : Nat → Nat → AV} {s r : AV} (ty : AppTy P t t2 e wd by_) (hsh : sh.length = wd) (es : elems h wd s = some (m, f, sh)) (e : appendS wd by_ s sh m f n g h = some (r, h')) :
    Mono h h' ∧ r ≠ .top ∧ ((∀ p ∈ h'.ob, p) → Fresh ρ h.nxt h.hi → HeapRep P ρ h.heap w → ∀ base cap X olds news, den ρ s = some (.slice base m cap) → m ≤ cap → Reads P w wd n X news → Reads P w wd m (.slice base m cap) olds → (∀ v ∈ news, oneV v = true) →
      (∀ i, i < m → ∀ (j : Nat) k, sh[j]? = some k → kindOk k (f i j) ∧ ∃ y, olds[i * wd + j]? = some y ∧ den ρ (f i j) = some y) →
      (∀ i, i < n → ∀ (j : Nat) k, sh[j]? = some k → kindOk k (g i j) ∧ ∃ y, news[i * wd + j]? = some y ∧ den ρ (g i j) = some y) → AppOk P ρ w h h' t t2 (.slice base m cap) X r) := by
  unfold appendS at e
  split at e
  · rename_i hno
    obtain ⟨a, b, c⟩ := growFresh_ok (ρ := ρ) (w := w) ty hno hsh e
    exact ⟨a, b, fun ho hf hr base cap X olds news hS hmc hX _ _ _ hg => c ho hf hr base m cap X news hS hmc hX hg⟩
  · split at e
    · rename_i b hb
      split at e
      · rename_i wd0 sh0 len0 f0 hg0
        split at e
        · rename_i h1 hw0 hn
          split at e
          · rename_i b' h2 hnew
            cases e
            have hw0 := Nat.eq_of_beq_eq_true hw0; subst hw0
            obtain ⟨q, o⟩ := need_qt hn
            refine ⟨q.mono.trans ((eatB_mono h1 b).trans (new_mono hnew)), by simp, fun ho hf hr base cap X olds news hS hmc hX hS' hone hfo hgn a => ?_⟩
            have hbig := o (by have := new_ob hnew; rw [show h1.ob = h'.ob from this.symm]; exact ho)
            have hbig : (m + n) * by_ ≤ 70368744177664 := by simpa using hbig
            have hfg : ∀ i, i < m + n → ∀ (j : Nat) k, sh[j]? = some k → kindOk k (if i < m then f i j else g (i - m) j) ∧ ∃ y, (olds ++ news)[i * wd0 + j]? = some y ∧ den ρ (if i < m then f i j else g (i - m) j) = some y := by
              intro i hi j k hk
              have hj : j < wd0 := by have := (List.getElem?_eq_some_iff.1 hk).1; omega
              by_cases him : i < m
              · simp only [him, if_true]
                obtain ⟨a1, y, a2, a3⟩ := hfo i him j k hk
                refine ⟨a1, y, ?_, a3⟩
                have : (i + 1) * wd0 ≤ m * wd0 := Nat.mul_le_mul_right wd0 (by omega)
                rw [Nat.succ_mul] at this
                rw [List.getElem?_append_left (by rw [hS'.1]; omega)]; exact a2
              · simp only [him, if_false]
                obtain ⟨a1, y, a2, a3⟩ := hgn (i - m) (by omega) j k hk
                refine ⟨a1, y, ?_, a3⟩
                have hge : m * wd0 ≤ i * wd0 := Nat.mul_le_mul_right wd0 (by omega)
                rw [List.getElem?_append_right (by rw [hS'.1]; omega), hS'.1, ← a2]
                congr 1
                rw [Nat.sub_mul]; omega
            have hholds := holds_arr (P := P) (ρ := ρ) hsh hfg
            have hf1 : Fresh ρ h1.nxt h1.hi := by rw [q.nxt, q.hi]; exact hf
            have hr1 : HeapRep P ρ h1.heap w := by rw [q.heap]; exact hr
            have hg1 : get h1.heap b = some (.arr wd0 sh0 false len0 f0) := by rw [q.heap]; exact hg0
            have hq : Step P ρ h w ρ h1 w := .refl hr q.heap
            -- which slice is appended to
            have hsl : ∃ off c0, den ρ (.ss wd0 b off m c0) = some (.slice base m cap) := by
              unfold elems at es
              split at es
              · rename_i wd' b0 off' len c
                simp [blockOf] at hb; subst hb
                split at es
                · split at es
                  · rename_i q1 q2
                    cases es
                    have q1 := Nat.eq_of_beq_eq_true q1; subst q1
                    exact ⟨_, _, hS⟩
                  · cases es
                · cases es
              · cases es
            obtain ⟨off, c0, hden⟩ := hsl
            by_cases hfit : m + n ≤ cap
            · obtain ⟨ρ', w', z, r1, r2, r3, r4⟩ := append_fits (a := a) ty hX hS' hone hg1 (.inr ⟨sh0, len0, f0, rfl⟩) rfl hden rfl hfit hnew hf1 hr1 hholds (fun h0 ρ' w' L hw hc => by
                rw [h0]; exact holds_arr0 hsh ρ' w' L hw hc)
              exact ⟨ρ', w', z, r1, r2, hq.trans r4 q.mono ((eatB_mono h1 b).trans (new_mono hnew))⟩
            · obtain ⟨ρ', w', z, r1, r2, _, r3⟩ := append_makes (a := a) (h := eatB h1 b) ty hX hS' hfit hbig hnew hf1 (HeapRep.del hr1 b) hholds
              exact ⟨ρ', w', z, r1, r2, hq.trans r3.uneat q.mono ((eatB_mono h1 b).trans (new_mono hnew))⟩
          · cases e
        · cases e
      · cases e
    · cases e

theorem den_one {ρ : Ren} {l : List AV} {xs : List Value} (h : denL ρ l = some xs) (hone : ∀ u ∈ l, u.oneCell = true) : ∀ v ∈ xs, oneV v = true := by
  intro v hv
  obtain ⟨k, hk⟩ := List.mem_iff_getElem?.1 hv
  have hlen := denL_length _ _ h
  have hlt := (List.getElem?_eq_some_iff.1 hk).1
  obtain ⟨y, hy, hd⟩ := denL_get _ _ h k l[k] (List.getElem?_eq_getElem (by omega))
  rw [hk] at hy; cases hy
  exact oneCell_den (hone _ (List.getElem_mem _)) hd

theorem kind_one {ρ : Ren} {k : CK} {v : AV} {y : Value} (h : kindOk k v) (hd : den ρ v = some y) : oneV y = true := by
  cases k with
  | int k => obtain ⟨n, rfl | rfl⟩ := h <;> (simp [den] at hd; subst hd; rfl)
  | bool => obtain ⟨n, rfl | rfl⟩ := h <;> (simp [den] at hd; subst hd; rfl)
  | val => exact oneCell_den h hd

theorem rows_one {ρ : Ren} {wd n : Nat} {sh : List CK} {g : Nat → Nat → AV} {news : List Value} (hsh : sh.length = wd) (hl : news.length = n * wd) (h : ∀ i, i < n → ∀ (j : Nat) k, sh[j]? = some k → kindOk k (g i j) ∧ ∃ y, news[i * wd + j]? = some y ∧ den ρ (g i j) = some y) :
    ∀ v ∈ news, oneV v = true := by
  intro v hv
  obtain ⟨k, hk⟩ := List.mem_iff_getElem?.1 hv
  have hlt := (List.getElem?_eq_some_iff.1 hk).1
  have hwd : 0 < wd := by
    rcases Nat.eq_zero_or_pos wd with h0 | h0
    · rw [h0] at hl; simp at hl; rw [hl] at hlt; simp at hlt
    · exact h0
  have hi : k / wd < n := by rw [Nat.div_lt_iff_lt_mul hwd, ← hl]; exact hlt
  have hj : k % wd < sh.length := by rw [hsh]; exact Nat.mod_lt _ hwd
  obtain ⟨a, y, b, c⟩ := h (k / wd) hi (k % wd) _ (List.getElem?_eq_getElem hj)
  have : k / wd * wd + k % wd = k := by rw [Nat.mul_comm]; exact Nat.div_add_mod k wd
  rw [this, hk] at b; cases b
  exact kind_one a c

theorem append_ok {P : Program} {ρ : Ren} {w : World} {h h' : Hp} {t t2 : TypeId} {s x r : AV} (e : appendA P t t2 s x h = some (r, h')) :
    Mono h h' ∧ ((∀ p ∈ h'.ob, p) → Fresh ρ h.nxt h.hi → HeapRep P ρ h.heap w → ∀ S X, relS ρ s S → relS ρ x X → ∀ a, ∃ ρ' w' z, (Builtin.append_ #[t, t2] a #[S, X]).run P w = .ok z w' ∧ den ρ' r = some z ∧ Step P ρ h w ρ' h' w') := by
  unfold appendA at e
  split at e
  · rename_i el el2 hu hu2
    split at e
    · rename_i wd by_ z hs hb hz
      split at e
      · rename_i hzl hw1 hb1
        have hzl := Nat.eq_of_beq_eq_true hzl
        have hzv : ∃ zv, (∀ w' : World, (zeroValue el).run P w' = .ok zv w') ∧ zv.cells.size = wd := by
          obtain ⟨zv, _, rfl⟩ := run_zero (w := w) hz
          exact ⟨zv, fun w' => zero_int hz, by have := (zero_cells (ρ := ρ) zv).1; simp at this; omega⟩
        have ty : AppTy P t t2 el wd by_ := ⟨hu, ⟨el2, hu2⟩, hs, hb, by simpa using hb1, by simpa using hw1, hzv⟩
        have top : ∀ {v : AV} {X : Value}, relS ρ v X → v ≠ .top → den ρ v = some X := fun h hk => relS_den h hk
        split at e
        · rename_i m l hes
          have hsk : s ≠ .top := by intro e; subst e; simp [explicit] at hes
          split at e
          · rename_i n rr hex
            have hxk : x ≠ .top := by intro e; subst e; simp [explicit] at hex
            obtain ⟨a, b⟩ := appendXX_ok (ρ := ρ) (w := w) ty hes hex e
            exact ⟨a, fun ho hf hr S X hS hX => b hf hr S X (top hS hsk) (top hX hxk)⟩
          · split at e
            · rename_i n g sh h1 hel hwi hno
              have hxk : x ≠ .top := by intro e; subst e; simp [elems, explicit] at hel
              have hqw : Qt h h1 ∧ True := by
                unfold within at hwi
                split at hwi
                · split at hwi
                  · exact ⟨(need_qt hwi).1, trivial⟩
                  · cases hwi
                · cases hwi
              have q := hqw.1
              have hshl : sh.length = wd ∨ True := .inr trivial
              refine ⟨?_, ?_⟩
              · exact q.mono.trans (growFresh_mono e)
              · intro ho hf hr S X hS hX a
                have hXd := top hX hxk
                have hSd := top hS hsk
                obtain ⟨_, _, base, cap, olds, rfl, hmc, _, _⟩ := explicit_ok hes hr hSd
                have hr1 : HeapRep P ρ h1.heap w := by rw [q.heap]; exact hr
                have hf1 : Fresh ρ h1.nxt h1.hi := by rw [q.nxt, q.hi]; exact hf
                have hsh : sh.length = wd := by
                  unfold elems at hel
                  split at hel
                  · rename_i wd' b off len c
                    split at hel
                    · rename_i wd'' sh' ro len' f' hg
                      split at hel
                      · rename_i q1 q2
                        cases hel
                        have q2 := Nat.eq_of_beq_eq_true q2; subst q2
                        obtain ⟨L, hL, _⟩ := den_ss hXd
                        exact (hr.obj hg hL).2.1
                      · cases hel
                    · cases hel
                  · cases hel
                obtain ⟨m1, _, o1⟩ := growFresh_ok (ρ := ρ) (w := w) ty hno hsh e
                have ho1 : ∀ p ∈ h1.ob, p := fun p hp => ho p (m1.ob p hp)
                obtain ⟨_, bx, cx, news, rfl, _, hRX, hrows⟩ := elems_ok (P := P) hel hwi ho1 hr hXd
                obtain ⟨ρ', w', z, r1, r2, r3⟩ := o1 ho hf1 hr1 base _ cap _ news hSd hmc hRX hrows a
                exact ⟨ρ', w', z, r1, r2, (Step.refl hr q.heap).trans r3 q.mono m1⟩
            · cases e
        · split at e
          · rename_i m f sh h1 hel hwi
            have hsk : s ≠ .top := by intro e; subst e; simp [elems] at hel
            have q : Qt h h1 := by
              unfold within at hwi
              split at hwi
              · split at hwi
                · exact (need_qt hwi).1
                · cases hwi
              · cases hwi
            have hshl : HeapRep P ρ h.heap w → (∃ S, den ρ s = some S) → sh.length = wd := by
              intro hr hS
              obtain ⟨S, hS⟩ := hS
              unfold elems at hel
              split at hel
              · rename_i wd' b off len c
                split at hel
                · rename_i wd'' sh' ro len' f' hg
                  split at hel
                  · rename_i q1 q2
                    cases hel
                    have q2 := Nat.eq_of_beq_eq_true q2; subst q2
                    obtain ⟨L, hL, _⟩ := den_ss hS
                    exact (hr.obj hg hL).2.1
                  · cases hel
                · cases hel
              · cases hel
            have hel1 : elems h1 wd s = some (m, f, sh) := by
              unfold elems at hel ⊢; rw [q.heap]; exact hel
            have smono : ∀ {n : Nat} {g : Nat → Nat → AV} {h2 : Hp} {r : AV} {h3 : Hp}, appendS wd by_ s sh m f n g h2 = some (r, h3) → Mono h2 h3 := by
              intro n g h2 r h3 e
              unfold appendS at e
              split at e
              · exact growFresh_mono e
              · split at e
                · split at e
                  · split at e
                    · rename_i h4 _ hn
                      split at e
                      · rename_i hnew; cases e; exact (need_qt hn).1.mono.trans ((eatB_mono _ _).trans (new_mono hnew))
                      · cases e
                    · cases e
                  · cases e
                · cases e
            split at e
            · rename_i n rr hex
              have hxk : x ≠ .top := by intro e; subst e; simp [explicit] at hex
              split at e
              · rename_i hfr
                refine ⟨q.mono.trans (smono e), fun ho hf hr S X hS hX a => ?_⟩
                have hSd := top hS hsk
                have hXd := top hX hxk
                have hsh := hshl hr ⟨S, hSd⟩
                have hr1 : HeapRep P ρ h1.heap w := by rw [q.heap]; exact hr
                have hf1 : Fresh ρ h1.nxt h1.hi := by rw [q.nxt, q.hi]; exact hf
                obtain ⟨m1, _, o1⟩ := appendS_ok (ρ := ρ) (w := w) ty hsh hel1 e
                have ho1 : ∀ p ∈ h1.ob, p := fun p hp => ho p (m1.ob p hp)
                obtain ⟨_, base, cap, olds, rfl, hmc, hRS, hrowsS⟩ := elems_ok (P := P) hel hwi ho1 hr hSd
                obtain ⟨hrl, hone, bx, cx, news, rfl, _, hdr, hRX⟩ := explicit_ok (P := P) hex hr1 hXd
                obtain ⟨ρ', w', z, r1, r2, r3⟩ := o1 ho hf1 hr1 base cap _ olds news hSd hmc hRX hRS (den_one hdr hone) hrowsS (fun i hi j k hk => by
                  obtain ⟨v, hv, hkv⟩ := fitsRows_ok n hfr i hi j k hk
                  rw [hsh] at hv
                  obtain ⟨y, hy, hdy⟩ := denL_get _ _ hdr _ v hv
                  simp only [rowsOf, nth_eq, hv]
                  exact ⟨hkv, y, hy, hdy⟩) a
                exact ⟨ρ', w', z, r1, r2, (Step.refl hr q.heap).trans r3 q.mono m1⟩
              · cases e
            · split at e
              · rename_i n g sh2 h2 hel2 hwi2
                have hxk : x ≠ .top := by intro e; subst e; simp [elems] at hel2
                have q2 : Qt h1 h2 := by
                  unfold within at hwi2
                  split at hwi2
                  · split at hwi2
                    · exact (need_qt hwi2).1
                    · cases hwi2
                  · cases hwi2
                have hel2' : elems h2 wd s = some (m, f, sh) := by
                  unfold elems at hel1 ⊢; rw [q2.heap]; exact hel1
                split at e
                · rename_i hsb
                  have hsb := shBeq_eq hsb; subst hsb
                  refine ⟨q.mono.trans (q2.mono.trans (smono e)), fun ho hf hr S X hS hX a => ?_⟩
                  have hSd := top hS hsk
                  have hXd := top hX hxk
                  have hsh := hshl hr ⟨S, hSd⟩
                  have qq := q.trans q2
                  have hr1 : HeapRep P ρ h1.heap w := by rw [q.heap]; exact hr
                  have hr2 : HeapRep P ρ h2.heap w := by rw [qq.heap]; exact hr
                  have hf2 : Fresh ρ h2.nxt h2.hi := by rw [qq.nxt, qq.hi]; exact hf
                  obtain ⟨m1, _, o1⟩ := appendS_ok (ρ := ρ) (w := w) ty hsh hel2' e
                  have ho2 : ∀ p ∈ h2.ob, p := fun p hp => ho p (m1.ob p hp)
                  have ho1 : ∀ p ∈ h1.ob, p := fun p hp => ho2 p (q2.ob p hp)
                  obtain ⟨_, base, cap, olds, rfl, hmc, hRS, hrowsS⟩ := elems_ok (P := P) hel hwi ho1 hr hSd
                  obtain ⟨_, bx, cx, news, rfl, _, hRX, hrowsX⟩ := elems_ok (P := P) hel2 hwi2 ho2 hr1 hXd
                  obtain ⟨ρ', w', z, r1, r2, r3⟩ := o1 ho hf2 hr2 base cap _ olds news hSd hmc hRX hRS (rows_one hsh hRX.1 hrowsX) hrowsS hrowsX a
                  exact ⟨ρ', w', z, r1, r2, (Step.refl hr qq.heap).trans r3 qq.mono m1⟩
                · cases e
              · cases e
          · cases e
      · cases e
    · cases e
  · cases e

theorem appendE_ok {P : Program} {ρ : Ren} {w : World} {h h' : Hp} {t t2 : TypeId} {s x r : AV} (e : appendE P t t2 s x h = some (r, h')) :
    Mono h h' ∧ ((∀ p ∈ h'.ob, p) → Fresh ρ h.nxt h.hi → HeapRep P ρ h.heap w → ∀ S X, relS ρ s S → relS ρ x X → ∀ a, ∃ ρ' w' z, (Builtin.append_ #[t, t2] a #[S, X]).run P w = .ok z w' ∧ den ρ' r = some z ∧ Step P ρ h w ρ' h' w') := by
  unfold appendE at e
  split at e
  · rename_i v rr hh
    split at e
    · unfold appendNo at e
      split at e
      · rename_i wd' b' off' len c'
        split at e
        · rename_i el el2 hu hu2
          split at e
          · rename_i wd by_ z hs hb hz
            split at e
            · rename_i hzl hw1 hb1 hsl
              split at e
              · rename_i h1 hn
                cases e
                obtain ⟨q, o⟩ := need_qt hn
                have q' : Mono h h' := hints_mono' q.mono
                refine ⟨q', fun ho hf hr S X hS hX a => ?_⟩
                have hzl := Nat.eq_of_beq_eq_true hzl
                have hzv : ∃ zv, (∀ w' : World, (zeroValue el).run P w' = .ok zv w') ∧ zv.cells.size = wd := by
                  obtain ⟨zv, _, rfl⟩ := run_zero (w := w) hz
                  exact ⟨zv, fun w' => zero_int hz, by have := (zero_cells (ρ := ρ) zv).1; simp at this; omega⟩
                have ty : AppTy P t t2 el wd by_ := ⟨hu, ⟨el2, hu2⟩, hs, hb, by simpa using hb1, by simpa using hw1, hzv⟩
                have hl0 := Nat.eq_of_beq_eq_true (o ho)
                subst hl0
                have hXv : ∃ base cap, X = .slice base 0 cap := by
                  obtain ⟨L, _, _, ⟨_, _, _, _, rfl⟩ | ⟨_, _, _, rfl⟩⟩ := den_ss (relS_den hX (by simp))
                  · exact ⟨_, _, rfl⟩
                  · exact ⟨_, _, rfl⟩
                obtain ⟨bX, cX, rfl⟩ := hXv
                have hXr : Reads P w wd 0 (.slice bX 0 cX) [] := ⟨by simp, fun w' => by simp [Builtin.lenOf], fun w' _ => by cases bX <;> simp [Builtin.firstCells, loadCells, loadCellsFrom]⟩
                have hSd : den ρ s = some S := relS_den hS (by intro e; subst e; simp [isSl] at hsl)
                have hSv : ∃ base m cap, S = .slice base m cap ∧ m ≤ cap := by
                  unfold isSl at hsl
                  split at hsl
                  · simp [den] at hSd; exact ⟨_, _, _, hSd.symm, Nat.le_refl _⟩
                  · obtain ⟨L, _, _, _, h1, _, rfl⟩ := den_xs hSd
                    exact ⟨_, _, _, rfl, h1⟩
                  · obtain ⟨L, _, _, ⟨_, _, _, _, rfl⟩ | ⟨_, h1, _, rfl⟩⟩ := den_ss hSd
                    · exact ⟨_, _, _, rfl, Nat.le_refl _⟩
                    · exact ⟨_, _, _, rfl, h1⟩
                  · cases hsl
                obtain ⟨base, m, cap, rfl, hm⟩ := hSv
                exact ⟨ρ, w, _, append_nothing ty hXr hm, hSd, Step.refl hr q.heap⟩
              · cases e
            · cases e
          · cases e
        · cases e
      · cases e
    · exact append_ok e
  · exact append_ok e

end Go.Ev
