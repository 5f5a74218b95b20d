/-
  EvApp and what follows it.
-/
import Derived.Test.YtljeiencnpnbkaaDoorEvMem
import Derived.Scope
import Derived.Test.YtljeiencnpnbkaaDoorEvCore
/-
  'make', 'append', 'len', 'cap', 'min', 'max': the soundness of the evaluator, eighth part.
-/
set_option linter.unusedSimpArgs false
set_option linter.unusedVariables false
namespace Go.Ev

theorem wrap_i64 {n : Int} (h : 0 ≤ n) (h' : n ≤ 9223372036854775807) : IntKind.i64.wrap n = n := by
  unfold IntKind.wrap
  have h1 : n % (2 ^ IntKind.i64.bits : Int) = n := Int.emod_eq_of_lt h (by simp [IntKind.bits]; omega)
  simp only [h1]
  rw [if_neg]
  simp [IntKind.bits, IntKind.signed]
  omega

theorem bytes_info {P : Program} {t : TypeId} {n : Nat} (h : bytesT P t = some n) : ∃ i, P.info? t = some i ∧ i.bytes = n := by
  unfold bytesT at h
  cases hi : P.info? t with
  | none => simp [hi] at h
  | some i => simp [hi] at h; exact ⟨i, rfl, h⟩

theorem kindOf_ok {v : AV} (h : v.oneCell = true) : kindOk (kindOf v) v := by
  cases v <;> simp [kindOf, kindOk] <;> first | exact h | skip

theorem run_makeSlice {P : Program} {w : World} {t e : TypeId} {n by_ : Nat} {zv : Value} {k k' : IntKind} {l m : Nat} (hu : P.underlying t = some (.slice e)) (hn : sizeT P e = some n) (hb : bytesT P e = some by_) (hz : (zeroValue e).run P w = .ok zv w)
    (hlm : l ≤ m) (hm : m ≤ 9223372036854775807) (hbm : by_ * m ≤ 140737488355328) :
    (Instr.makeSlice t (.int k l) (.int k' m)).run P w = .ok (.slice (some ⟨w.heap.size, 0, none⟩) l m) (w.alloc (.cells (if m * n = 0 then #[] else (Array.range (m * n)).map (fun i => zv.cells[i % zv.cells.size]!)) e)) := by
  obtain ⟨i, hi, hib⟩ := bytes_info hb
  have h1 : IntKind.i64.wrap (l : Int) = l := wrap_i64 (by omega) (by omega)
  have h2 : IntKind.i64.wrap (m : Int) = m := wrap_i64 (by omega) (by omega)
  have h3 : ¬ ((by_ : Int) * (m : Int) > 2 ^ 48) := by
    have h0 := Int.ofNat_le.2 hbm
    rw [Int.natCast_mul] at h0
    omega
  have h4 : ¬ ((m : Int) < 0) := by omega
  have h5 : ¬ ((l : Int) < 0) := by omega
  have h6 : ¬ ((l : Int) > (m : Int)) := by omega
  simp only [Instr.makeSlice, Sem.run_bind, run_underlying' hu, Result.andThen_ok, asInt, asIntOf, Sem.run_pure, pure_bind, typeInfo, run_program, hi, hib, h1, h2]
  simp only [h3, h4, h5, h6, decide_false, Bool.or_self, Bool.false_eq_true, if_false, Sem.run_bind, run_askRoom, Result.andThen_ok, run_sizeOf hn, Int.toNat_natCast]
  by_cases h0 : m * n = 0
  · have hr0 : ∀ f : Nat → Value, Array.map f (Array.range 0) = #[] := fun f => Array.ext' (by simp)
    simp [h0, newRow, hr0]
  · simp only [h0, if_false, Sem.run_bind, hz, Result.andThen_ok, Sem.run_pure]
    simp [newRow]

theorem zero_range {zv : Value} {n m : Nat} (hzs : zv.cells.size = n) (hn : n ≠ 0) {k : Nat} (hk : k < m * n) : ((Array.range (m * n)).map (fun i => zv.cells[i % zv.cells.size]!))[k]? = zv.cells[k % n]? := by
  have : k % n < zv.cells.size := by rw [hzs]; exact Nat.mod_lt _ (by omega)
  simp [hk, hzs, getElem!_def, Array.getElem?_eq_getElem this]

theorem makeSlice_ok {P : Program} {ρ : Ren} {w : World} {t : TypeId} {len cap r : AV} {h h' : Hp} (e : makeSliceA P t len cap h = some (r, h')) :
    Mono h h' ∧ r ≠ .top ∧ ((∀ p ∈ h'.ob, p) → Fresh ρ h.nxt h.hi → HeapRep P ρ h.heap w → ∀ x y, relS ρ len x → relS ρ cap y → ∃ ρ' w' z, (Instr.makeSlice t x y).run P w = .ok z w' ∧ den ρ' r = some z ∧ Step P ρ h w ρ' h' w') := by
  unfold makeSliceA at e
  split at e
  · rename_i el hu
    split at e
    · rename_i n z by_ k c l k' d m hn hz hb hl hm
      have hX : ∀ X, relS ρ len X → X = .int k l := fun X hX => by
        obtain ⟨h1, h2⟩ := asI_den (ρ := ρ) hl
        have := relS_den hX h2; rw [h1] at this; cases this; rfl
      have hY : ∀ Y, relS ρ cap Y → Y = .int k' m := fun Y hY => by
        obtain ⟨h1, h2⟩ := asI_den (ρ := ρ) hm
        have := relS_den hY h2; rw [h1] at this; cases this; rfl
      split at e
      · rename_i hzl hone ha
        have hzl := Nat.eq_of_beq_eq_true hzl
        have hone : 1 ≤ n := by simpa using hone
        obtain ⟨zv, hzr, rfl⟩ := run_zero (w := w) hz
        have hzc := zero_cells (ρ := ρ) zv
        have hzs : zv.cells.size = n := by have := hzc.1; simp at this; omega
        have hzd := hzc.den (fun v hv => oneCell_known (allOne_mem ha v hv))
        -- what a made array stands for
        have harr : ∀ (M : Nat) (b : Nat) (L : Loc), ρ b = none → L = ⟨w.heap.size, 0, n, M, false⟩ → ∀ (f : Nat → Nat → AV), (∀ i, i < M → ∀ j, f i j = match nth (ofVal zv).cells j with | some v => v | none => .top) →
            ObjRep P (ρ.set b L) (w.alloc (.cells (if M * n = 0 then #[] else (Array.range (M * n)).map (fun i => zv.cells[i % zv.cells.size]!)) el)) L (.arr n ((ofVal zv).cells.map kindOf) false M f) := by
          rintro M b L hρb rfl f hff
          refine ⟨rfl, by simp [hzl], Nat.le_refl _, by simp, fun hc => ⟨_, el, (0, 0), heap_alloc_new w _, fun _ => Nat.le_refl _, ?_, fun i hi j kd hk => ?_⟩⟩
          · simp only at hc
            have : M * n ≠ 0 := Nat.mul_ne_zero hc (by omega)
            simp [this]
          · simp only [List.getElem?_map] at hk
            cases hzj : (ofVal zv).cells[j]? with
            | none => simp [hzj] at hk
            | some v =>
              simp [hzj] at hk; subst hk
              have hj : j < n := by have := (List.getElem?_eq_some_iff.1 hzj).1; omega
              have hv1 : v.oneCell = true := allOne_mem ha v (List.mem_of_getElem? hzj)
              obtain ⟨y, hy, hdy⟩ := denL_get _ _ hzd j v hzj
              have hij : i * n + j < M * n := by
                have : (i + 1) * n ≤ M * n := Nat.mul_le_mul_right n (by omega)
                rw [Nat.succ_mul] at this; omega
              have hne : M * n ≠ 0 := by omega
              rw [hff i hi, nth_eq, hzj]
              refine ⟨kindOf_ok hv1, y, ?_, den_mono (Ren.le_set hρb) _ _ hdy⟩
              simp only [hne, if_false, Nat.zero_add]
              rw [zero_range hzs (by omega) hij]
              have : (i * n + j) % n = j := by rw [Nat.add_comm, Nat.add_mul_mod_self_right, Nat.mod_eq_of_lt hj]
              rw [this]; simpa using hy
        split at e
        · split at e
          · rename_i l m
            split at e
            · rename_i h1 h2 h3
              split at e
              · rename_i b h4 hnew
                cases e
                refine ⟨new_mono hnew, by simp, fun _ hf hr x y hx hy => ?_⟩
                have h1 : l ≤ m + 1 := by simpa using h1
                have h2 : by_ * (m + 1) ≤ 140737488355328 := by simpa using h2
                have h3 : m + 1 ≤ 9223372036854775807 := by simpa using h3
                have hx := hX x hx; have hy := hY y hy
                subst hx; subst hy
                have hrun := run_makeSlice (k := k) (k' := k') (l := l) (m := m + 1) hu hn hb hzr h1 h3 h2
                have hρb : ρ b = none := by obtain ⟨rfl, hlt, _⟩ := new_spec hnew; exact hf _ (Nat.le_refl _) hlt
                let L : Loc := ⟨w.heap.size, 0, n, m + 1, false⟩
                have hne : (m + 1) * n ≠ 0 := Nat.mul_ne_zero (by omega) (by omega)
                have hcn : (ofVal zv).cells ≠ [] := by intro x; rw [x] at hzl; simp at hzl; omega
                have ho : ObjRep P (ρ.set b L) (w.alloc (.cells (if (m + 1) * n = 0 then #[] else (Array.range ((m + 1) * n)).map (fun i => zv.cells[i % zv.cells.size]!)) el)) L (.cells n (repeatL (ofVal zv).cells (m + 1))) := by
                  refine ⟨rfl, by simp [L], rfl, _, el, (0, 0), heap_alloc_new w _, Nat.le_refl _, by simp [L, hne, repeatL_length, hzl], by simp [L, hne], fun j v hj => ?_⟩
                  rw [repeatL_get _ hcn, hzl] at hj
                  split at hj
                  · rename_i hlt
                    obtain ⟨y, hy, hdy⟩ := denL_get _ _ hzd _ v hj
                    refine ⟨y, ?_, .inr (den_mono (Ren.le_set hρb) _ _ hdy)⟩
                    simp only [hne, if_false, L, Nat.zero_add]
                    rw [zero_range hzs (by omega) hlt]; simpa using hy
                  · cases hj
                obtain ⟨hs, _⟩ := new_step hnew hr hf _ L rfl ho
                refine ⟨ρ.set b L, _, _, by simpa using hrun, ?_, hs⟩
                simp [den, Ren.set_same, Loc.slice, L, capOr, h1]
              · cases e
            · cases e
          · split at e
            · rename_i b h4 hnew
              cases e
              refine ⟨new_mono hnew, by simp, fun _ hf hr x y hx hy => ?_⟩
              have hx := hX x hx; have hy := hY y hy
              subst hx; subst hy
              have hrun := run_makeSlice (k := k) (k' := k') (l := 0) (m := 0) hu hn hb hzr (Nat.le_refl _) (by omega) (by simp)
              have hρb : ρ b = none := by obtain ⟨rfl, hlt, _⟩ := new_spec hnew; exact hf _ (Nat.le_refl _) hlt
              obtain ⟨hs, _⟩ := new_step hnew hr hf _ _ rfl (harr 0 b _ hρb rfl _ (fun i hi => by omega))
              refine ⟨_, _, _, by simpa using hrun, ?_, hs⟩
              simp [den, Ren.set_same, Loc.slice, capOr]
            · cases e
          · cases e
        · split at e
          · rename_i h1 hneed
            split at e
            · rename_i b h4 hnew
              cases e
              obtain ⟨q, o⟩ := need_qt hneed
              refine ⟨q.mono.trans (new_mono hnew), by simp, fun ho hf hr x y hx hy => ?_⟩
              have hx := hX x hx; have hy := hY y hy
              subst hx; subst hy
              have hc := o (by rw [← new_ob hnew]; exact ho)
              simp at hc
              obtain ⟨⟨⟨c1, c2⟩, c3⟩, c4⟩ := hc
              obtain ⟨l', rfl⟩ := Int.eq_ofNat_of_zero_le c1
              obtain ⟨m', rfl⟩ := Int.eq_ofNat_of_zero_le (Int.le_trans c1 c2)
              have hrun := run_makeSlice (k := k) (k' := k') (l := l') (m := m') hu hn hb hzr (by omega) (by omega) (by rw [← Int.natCast_mul] at c3; omega)
              have hf1 : Fresh ρ h1.nxt h1.hi := by rw [q.nxt, q.hi]; exact hf
              have hr1 : HeapRep P ρ h1.heap w := by rw [q.heap]; exact hr
              have hρb : ρ b = none := by obtain ⟨rfl, hlt, _⟩ := new_spec hnew; exact hf1 _ (Nat.le_refl _) hlt
              simp only [Int.toNat_natCast] at hnew ⊢
              obtain ⟨hs, _⟩ := new_step hnew hr1 hf1 _ _ rfl (harr m' b _ hρb rfl _ (fun i hi j => rfl))
              refine ⟨_, _, _, hrun, ?_, (Step.refl hr q.heap).trans hs q.mono (new_mono hnew)⟩
              simp [den, Ren.set_same, Loc.slice, capOr]; omega
            · cases e
          · cases e
      · cases e
    · cases e
  · cases e

theorem makeSliceE_ok {P : Program} {ρ : Ren} {w : World} {t : TypeId} {len cap r : AV} {h h' : Hp} (e : makeSliceE P t len cap h = some (r, h')) :
    Mono h h' ∧ r ≠ .top ∧ ((∀ p ∈ h'.ob, p) → Fresh ρ h.nxt h.hi → HeapRep P ρ h.heap w → ∀ x y, relS ρ len x → relS ρ cap y → ∃ ρ' w' z, (Instr.makeSlice t x y).run P w = .ok z w' ∧ den ρ' r = some z ∧ Step P ρ h w ρ' h' w') := by
  unfold makeSliceE at e
  split at e
  · rename_i v rr hh
    split at e
    · split at e
      · rename_i k n k2 n2
        obtain ⟨m, ht, o⟩ := makeSlice_ok (P := P) (ρ := ρ) (w := w) e
        have m0 : Mono h { h with hints := rr, ob := (n = 0) :: (n2 = 0) :: h.ob } := ⟨fun p hp => List.mem_cons_of_mem _ (List.mem_cons_of_mem _ hp), Nat.le_refl _, rfl, fun _ x => x⟩
        refine ⟨m0.trans m, ht, fun ho hf hr x y hx hy => ?_⟩
        have e1 : n = 0 := ho _ (m.ob _ (List.mem_cons_self ..))
        have e2 : n2 = 0 := ho _ (m.ob _ (List.mem_cons_of_mem _ (List.mem_cons_self ..)))
        have s0 : Step P ρ h w ρ { h with hints := rr, ob := (n = 0) :: (n2 = 0) :: h.ob } w := Step.refl hr rfl
        subst e1; subst e2
        obtain ⟨ρ', w', z, h1, h2, h3⟩ := o ho hf hr x y (hx.imp (fun q => by cases q) id) (hy.imp (fun q => by cases q) id)
        exact ⟨ρ', w', z, h1, h2, s0.trans h3 m0 m⟩
      · cases e
    · exact makeSlice_ok e
  · exact makeSlice_ok e

/-! ### append -/
def withHeap (w w' : World) : Prop := w'.heap = w.heap

theorem run_append_fits {P : Program} {w w' : World} {t t2 e e2 : TypeId} {a : TypeId} {wd n m cap : Nat} {base : Option Addr} {X : Value} {news : List Value} (hu : P.underlying t = some (.slice e)) (hu2 : P.underlying t2 = some (.slice e2)) (hs : sizeT P e = some wd)
    (hl : (Builtin.lenOf X).run P w = .ok n w) (hnew : (Builtin.firstCells wd n X).run P w = .ok news.toArray w) (hfit : m + n ≤ cap)
    (hst : (match base with | some b => storeCells (b.add (m * wd)) news | none => pure () : Sem Unit).run P w = .ok () w') :
    (Builtin.append_ #[t, t2] a #[.slice base m cap, X]).run P w = .ok (.slice base (m + n) cap) w' := by
  simp only [Builtin.append_, List.getElem?_toArray, List.getElem?_cons_zero, List.getElem?_cons_succ, Sem.run_bind, run_underlying' hu, run_underlying' hu2, Result.andThen_ok, run_sizeOf hs, Sem.run_pure, Bool.false_eq_true, if_false, hl, hfit, if_true, Bool.not_false, hnew]
  cases base with
  | none => simp at hst; subst hst; simp
  | some b => simp only [Sem.run_bind, hst, Result.andThen_ok, Sem.run_pure]

theorem run_append_grows {P : Program} {w : World} {t t2 e e2 : TypeId} {a : TypeId} {wd n m cap by_ : Nat} {base : Option Addr} {X zv : Value} {olds news : List Value} (hu : P.underlying t = some (.slice e)) (hu2 : P.underlying t2 = some (.slice e2)) (hs : sizeT P e = some wd) (hb : bytesT P e = some by_) (hb1 : 1 ≤ by_)
    (hz : ∀ w' : World, (zeroValue e).run P w' = .ok zv w') (hzs : zv.cells.size = wd)
    (hl : (Builtin.lenOf X).run P w = .ok n w) (hnew : (Builtin.firstCells wd n X).run P w.drew = .ok news.toArray w.drew) (hold : (Builtin.firstCells wd m (.slice base m cap)).run P w.drew = .ok olds.toArray w.drew) (hfit : ¬ m + n ≤ cap)
    (hbig : (m + n) * by_ ≤ 70368744177664) :
    ∃ newCap rest, m + n ≤ newCap ∧ rest.length = (newCap - (m + n)) * wd ∧
    (Builtin.append_ #[t, t2] a #[.slice base m cap, X]).run P w = .ok (.slice (some ⟨w.heap.size, 0, none⟩) (m + n) newCap) (w.drew.alloc (.cells (olds ++ news ++ rest).toArray e)) := by
  obtain ⟨i, hi, hib⟩ := bytes_info hb
  have hneed : m + n ≤ 70368744177664 := Nat.le_trans (Nat.le_mul_of_pos_right _ (by omega)) hbig
  have h1 : ¬ (((m + n : Nat) : Int) > IntKind.i64.max ∧ (False ∨ i.bytes = 0)) := by
    rintro ⟨_, h | h⟩
    · exact h
    · omega
  have h2 : ¬ (Builtin.nextslicecap (m + n) cap * i.bytes > 2 ^ 48) := by
    have := nextslicecap_le (need := m + n) (old := cap) (by omega)
    have h3 : Builtin.nextslicecap (m + n) cap * i.bytes ≤ (2 * (m + n)) * by_ := by rw [hib]; exact Nat.mul_le_mul_right _ this
    rw [Nat.mul_assoc] at h3
    omega
  let q : Question := .appendCap (m + n) cap e
  let newCap := q.cut (w.tape w.drawn q)
  have hq : m + n ≤ newCap := by simp only [newCap, q, Question.cut]; omega
  refine ⟨newCap, (Builtin.zeroCells zv.cells (newCap - (m + n))).toList, hq, by simp [Builtin.zeroCells, hzs], ?_⟩
  have hch : (choose (.appendCap (m + n) cap e)).run P w = .ok newCap w.drew := by
    rw [run_choose]
    rw [if_neg (by simp [Question.forced])]
    rfl
  simp only [Builtin.append_, List.getElem?_toArray, List.getElem?_cons_zero, List.getElem?_cons_succ, Sem.run_bind, run_underlying' hu, run_underlying' hu2, Result.andThen_ok, run_sizeOf hs, Sem.run_pure, Bool.false_eq_true, if_false, hl, hfit, Bool.not_false, if_true,
    typeInfo, run_program, hi, false_or]
  rw [if_neg (by simpa using h1)]
  simp only [Sem.run_bind, run_program, Result.andThen_ok, hi, Sem.run_pure]
  rw [if_neg h2]
  simp only [Sem.run_bind, hch, Result.andThen_ok, run_program, hi, Sem.run_pure, run_askRoom, hold, hnew, hz]
  simp only [newRow, Sem.run_bind, run_newObj, Result.andThen_ok, Sem.run_pure, World.alloc_eq]
  congr 3
  exact Array.ext' (by simp)

theorem HeapRep.congr {P : Program} {ρ : Ren} {heap : List (Nat × AO)} {w w' : World} (h : HeapRep P ρ heap w) (e : w'.heap = w.heap) : HeapRep P ρ heap w' :=
  ⟨fun n o hn => let ⟨l, hl, ho⟩ := h.1 n o hn; ⟨l, hl, ho.keep (Le.refl ρ) (fun _ => by rw [e])⟩, h.2⟩

/-- A new name for what a used-up one stood for. -/
theorem HeapRep.reuse {P : Program} {ρ : Ren} {heap : List (Nat × AO)} {w w' : World} (h : HeapRep P ρ heap w) {b n : Nat} {o o' : AO} {L L' : Loc} (hg : get heap b = some o) (ro : o.ro = false) (ro' : o'.ro = false) (hL : ρ b = some L) (hn : ρ n = none)
    (hb : L'.cap ≠ 0 → L'.blk = L.blk ∧ L.cap ≠ 0) (hs : ∀ k, k ≠ L.blk ∨ L'.cap = 0 → w'.heap[k]? = w.heap[k]?) (ho : ObjRep P (ρ.set n L') w' L' o') : HeapRep P (ρ.set n L') ((n, o') :: Ev.del heap b) w' := by
  have hle := Ren.le_set (l := L') hn
  have old : ∀ m x, m ≠ n → get ((n, o') :: Ev.del heap b) m = some x → m ≠ b ∧ get heap m = some x := by
    intro m x hm hx
    have h1 : Nat.beq n m = false := by rw [← Bool.not_eq_true, Nat.beq_eq]; exact fun e => hm e.symm
    simp only [get, h1] at hx
    rw [get_del] at hx
    by_cases hmb : m = b
    · simp [hmb] at hx
    · exact ⟨hmb, by simpa [hmb] using hx⟩
  refine ⟨fun m x hm => ?_, fun m k x y l1 l2 hm hk hne hro h1 h2 c1 c2 => ?_⟩
  · by_cases hmn : m = n
    · subst hmn; simp [get] at hm; subst hm; exact ⟨L', Ren.set_same ρ m L', ho⟩
    · obtain ⟨hmb, hx⟩ := old m x hmn hm
      obtain ⟨l', hl', hx'⟩ := h.1 m x hx
      refine ⟨l', hle _ _ hl', hx'.keep hle (fun c => hs _ ?_)⟩
      by_cases hc : L'.cap = 0
      · exact .inr hc
      · exact .inl (h.2 m b x o l' L hx hg hmb (by rw [ro, Bool.and_false]) hl' hL c (hb hc).2)
  · by_cases hmn : m = n
    · subst hmn
      rw [Ren.set_same] at h1; cases h1
      obtain ⟨hkb, hy⟩ := old k y (Ne.symm hne) hk
      obtain ⟨l', hl', _⟩ := h.1 k y hy
      rw [hle _ _ hl'] at h2; cases h2
      rw [(hb c1).1]
      exact (h.2 k b y o l2 L hy hg hkb (by rw [ro, Bool.and_false]) hl' hL c2 (hb c1).2).symm
    · obtain ⟨hmb, hx⟩ := old m x hmn hm
      obtain ⟨l1', hl1, _⟩ := h.1 m x hx
      rw [hle _ _ hl1] at h1; cases h1
      by_cases hkn : k = n
      · subst hkn
        rw [Ren.set_same] at h2; cases h2
        rw [(hb c2).1]
        exact h.2 m b x o l1 L hx hg hmb (by rw [ro, Bool.and_false]) hl1 hL c1 (hb c2).2
      · obtain ⟨hkb, hy⟩ := old k y hkn hk
        obtain ⟨l2', hl2, _⟩ := h.1 k y hy
        rw [hle _ _ hl2] at h2; cases h2
        exact h.2 m k x y _ _ hx hy hne hro hl1 hl2 c1 c2

/-- An object that stands for a row of cells wherever they lie. -/
def Holds (P : Program) (ρ : Ren) (wd m : Nat) (vs : List Value) (o : AO) : Prop :=
  ∀ (ρ' : Ren) (w' : World) (L : Loc) (c : Array Value) (t : TypeId) (fr : Nat × Nat), Le ρ ρ' → L.wid = wd → L.isnil = false → L.cap ≠ 0 → m ≤ L.cap → w'.heap[L.blk]? = some (.cells c t fr) → fr.2 ≤ fr.1 → L.base + L.cap * wd ≤ c.size →
    (∀ k, k < m * wd → c[L.base + k]? = vs[k]?) → ObjRep P ρ' w' L o

structure AppTy (P : Program) (t t2 e : TypeId) (wd by_ : Nat) : Prop where
  u : P.underlying t = some (.slice e)
  u2 : ∃ e2, P.underlying t2 = some (.slice e2)
  s : sizeT P e = some wd
  b : bytesT P e = some by_
  b1 : 1 ≤ by_
  w1 : 1 ≤ wd
  z : ∃ zv, (∀ w' : World, (zeroValue e).run P w' = .ok zv w') ∧ zv.cells.size = wd

/-- What is appended, and that to which it is: read in whatever world of the same memory. -/
def Reads (P : Program) (w : World) (wd m : Nat) (X : Value) (vs : List Value) : Prop :=
  vs.length = m * wd ∧ (∀ w' : World, (Builtin.lenOf X).run P w' = .ok m w') ∧ ∀ w' : World, w'.heap = w.heap → (Builtin.firstCells wd m X).run P w' = .ok vs.toArray w'

/-- A new row that an append makes. -/
theorem append_makes {P : Program} {ρ : Ren} {w : World} {h h' : Hp} {t t2 e a : TypeId} {wd by_ n m cap b : Nat} {base : Option Addr} {X : Value} {olds news : List Value} {o : AO} (ty : AppTy P t t2 e wd by_) (hX : Reads P w wd n X news) (hS : Reads P w wd m (.slice base m cap) olds)
    (hfit : ¬ m + n ≤ cap) (hbig : (m + n) * by_ ≤ 70368744177664) (hnew : h.new o = some (b, h')) (hf : Fresh ρ h.nxt h.hi) (hr : HeapRep P ρ h.heap w) (ho : Holds P ρ wd (m + n) (olds ++ news) o) :
    ∃ ρ' w' z, (Builtin.append_ #[t, t2] a #[.slice base m cap, X]).run P w = .ok z w' ∧ den ρ' (.ss wd b 0 (m + n) none) = some z ∧ (∃ L, ρ' b = some L ∧ L.isnil = false) ∧ Step P ρ h w ρ' h' w' := by
  obtain ⟨e2, hu2⟩ := ty.u2
  obtain ⟨zv, hz, hzs⟩ := ty.z
  obtain ⟨hX1, hX2, hX3⟩ := hX
  obtain ⟨hS1, hS2, hS3⟩ := hS
  obtain ⟨newCap, rest, hc1, hc2, hrun⟩ := run_append_grows (a := a) ty.u hu2 ty.s ty.b ty.b1 hz hzs (hX2 w) (hX3 w.drew rfl) (hS3 w.drew rfl) hfit hbig
  have hwd := ty.w1
  let L : Loc := ⟨w.heap.size, 0, wd, newCap, false⟩
  have hρb : ρ b = none := by obtain ⟨rfl, hlt, _⟩ := new_spec hnew; exact hf _ (Nat.le_refl _) hlt
  have hpos : 1 ≤ m + n := by omega
  have hsz : (olds ++ news ++ rest).length = newCap * wd := by
    simp only [List.length_append, hX1, hS1, hc2]
    rw [← Nat.add_mul, ← Nat.add_mul]; congr 1; omega
  have hobj : ObjRep P (ρ.set b L) (w.drew.alloc (.cells (olds ++ news ++ rest).toArray e)) L o := by
    refine ho _ _ L _ e (0, 0) (Ren.le_set hρb) rfl rfl (by simp [L]; omega) hc1 (heap_alloc_new w.drew _) (Nat.le_refl _) (by simp only [L, List.size_toArray, hsz]; omega) (fun k hk => ?_)
    simp only [L, Nat.zero_add, List.getElem?_toArray]
    rw [List.getElem?_append_left]
    simp only [List.length_append, hX1, hS1, ← Nat.add_mul]; exact hk
  obtain ⟨hs, _⟩ := new_step hnew (HeapRep.congr hr (w' := w.drew) rfl) hf (.cells (olds ++ news ++ rest).toArray e) L rfl hobj
  refine ⟨ρ.set b L, _, _, hrun, ?_, ⟨L, Ren.set_same _ _ _, rfl⟩, ⟨hs.le, hs.new, hs.rep, ⟨hs.fr.size, hs.fr.same, hs.fr.tape, hs.fr.os, hs.fr.output⟩, hs.own⟩⟩
  simp [den, Ren.set_same, Loc.slice, L, capOr, hc1]

theorem explicit_ok {P : Program} {ρ : Ren} {w : World} {h : Hp} {wd m : Nat} {v : AV} {l : List AV} {X : Value} (e : explicit h wd v = some (m, l)) (hr : HeapRep P ρ h.heap w) (hx : den ρ v = some X) :
    l.length = m * wd ∧ (∀ u ∈ l, u.oneCell = true) ∧ ∃ base cap olds, X = .slice base m cap ∧ m ≤ cap ∧ denL ρ l = some olds ∧ Reads P w wd m X olds := by
  unfold explicit at e
  split at e
  · cases e
    simp [den] at hx; subst hx
    exact ⟨by simp, by simp, none, 0, [], rfl, Nat.le_refl _, rfl, by simp, fun w' => by simp [Builtin.lenOf], fun w' _ => by simp [Builtin.firstCells]⟩
  · rename_i wd' b off len c
    split at e
    · rename_i hemp
      cases e
      obtain ⟨L, hL, hwd, hnil, hcl, hcap, rfl⟩ := den_xs hx
      have hlc : len = 0 ∧ c = some 0 := by
        unfold isEmptyS at hemp; split at hemp
        · exact ⟨rfl, rfl⟩
        · cases hemp
      obtain ⟨rfl, rfl⟩ := hlc
      exact ⟨by simp, by simp, _, _, [], rfl, Nat.le_refl _, rfl, by simp, fun w' => by simp [Builtin.lenOf], fun w' _ => by simp [Builtin.firstCells, loadCells, loadCellsFrom]⟩
    split at e
    · rename_i wd'' cs hg
      split at e
      · rename_i t h1 h2 ht
        split at e
        · rename_i ha
          cases e
          have h1 := Nat.eq_of_beq_eq_true h1; subst h1
          have h2 := Nat.eq_of_beq_eq_true h2; subst h2
          obtain ⟨hlen, rfl⟩ := takeN_eq _ _ _ ht
          rw [dropN_eq] at hlen ha ⊢
          simp only [List.length_drop] at hlen
          have hone := allOne_mem ha
          obtain ⟨L, hL, hwd, hnil, hcl, hcap, rfl⟩ := den_xs hx
          obtain ⟨g0, g1, g2, cc, ty, fr, hb, hf, hc, hc2, hv⟩ := hr.obj hg hL
          let xs : List Value := (List.range (m * wd)).map fun k => (cc[L.base + (off * wd + k)]?).getD undef
          have hxs : ∀ (k : Nat), k < m * wd → cc[L.base + (off * wd + k)]? = xs[k]? := by
            intro k hk
            have : L.base + (off * wd + k) < cc.size := by omega
            simp [xs, hk, Array.getElem?_eq_getElem this]
          refine ⟨by simp; omega, hone, _, _, xs, rfl, hcl, denL_of _ _ (by simp [xs]; omega) (fun k v hk => ?_), by simp [xs], fun w' => by simp [Builtin.lenOf], fun w' hw' => ?_⟩
          · have hkn : k < m * wd := by
              have := (List.getElem?_eq_some_iff.1 hk).1
              simp at this; omega
            have hmem := List.mem_of_getElem? hk
            rw [List.getElem?_take, if_pos hkn, List.getElem?_drop] at hk
            obtain ⟨x, hx, hrel⟩ := hv _ v hk
            rw [hxs k hkn] at hx
            exact ⟨x, hx, relS_den hrel (oneCell_known (hone v hmem))⟩
          · simp only [Builtin.firstCells]
            have hb' : w'.heap[L.blk]? = some (.cells cc ty fr) := by rw [hw']; exact hb
            have := run_loadCells_list (P := P) w' ⟨L.blk, L.base + off * L.wid, none⟩ xs (fun k x hk => by
              have hkn : k < m * wd := by have := (List.getElem?_eq_some_iff.1 hk).1; simpa [xs] using this
              rw [addr_add, cell_of_row w' L.blk _ cc ty fr hb', ← hk, ← hxs k hkn, hwd]
              congr 1; omega)
            rw [show xs.length = m * wd by simp [xs]] at this
            exact this
        · cases e
      · cases e
    · cases e
  · cases e

/-- What a symbolic slice holds. -/
theorem elems_ok {P : Program} {ρ : Ren} {w : World} {h h1 : Hp} {wd m : Nat} {v : AV} {f : Nat → Nat → AV} {sh : List CK} {X : Value} (e : elems h wd v = some (m, f, sh)) (ew : within h v = some h1) (ho : ∀ p ∈ h1.ob, p) (hr : HeapRep P ρ h.heap w) (hx : den ρ v = some X) :
    sh.length = wd ∧ ∃ base cap olds, X = .slice base m cap ∧ m ≤ cap ∧ Reads P w wd m X olds ∧ ∀ i, i < m → ∀ (j : Nat) k, sh[j]? = some k → kindOk k (f i j) ∧ ∃ y, olds[i * wd + j]? = some y ∧ den ρ (f i j) = some y := by
  unfold elems at e
  split at e
  · rename_i wd' b off len c
    split at e
    · rename_i wd'' sh' ro len' f' hg
      split at e
      · rename_i h2 h3
        cases e
        have h2 := Nat.eq_of_beq_eq_true h2; subst h2
        have h3 := Nat.eq_of_beq_eq_true h3; subst h3
        unfold within at ew
        simp only [hg] at ew
        have hlen := (need_qt ew).2 ho
        have hlen : off + m ≤ len' := by simpa using hlen
        obtain ⟨L, hL, hwd, ⟨hnil, rfl, rfl, hc0, rfl⟩ | ⟨hnil, hcl, hcap, rfl⟩⟩ := den_ss hx
        · obtain ⟨g1, g2, g3, g4, g5⟩ := hr.obj hg hL
          exact ⟨g2, none, 0, [], rfl, Nat.le_refl _, ⟨by simp, fun w' => by simp [Builtin.lenOf], fun w' _ => by simp [Builtin.firstCells]⟩, fun i hi => by omega⟩
        · obtain ⟨g1, g2, g3, g4, g5⟩ := hr.obj hg hL
          refine ⟨g2, ?_⟩
          by_cases hm0 : m = 0
          · subst hm0
            refine ⟨_, _, [], rfl, hcl, ⟨by simp, fun w' => by simp [Builtin.lenOf], fun w' _ => by simp [Builtin.firstCells, loadCells, loadCellsFrom]⟩, fun i hi => by omega⟩
          · have hLc : L.cap ≠ 0 := by omega
            obtain ⟨cc, ty, fr, hb, hf, hc2, hv⟩ := g5 hLc
            have hmw : (off + m) * wd ≤ L.cap * wd := Nat.mul_le_mul_right wd (by omega)
            rw [Nat.add_mul] at hmw
            let xs : List Value := (List.range (m * wd)).map fun k => (cc[L.base + (off * wd + k)]?).getD undef
            have hxs : ∀ (k : Nat), k < m * wd → cc[L.base + (off * wd + k)]? = xs[k]? := by
              intro k hk
              have : L.base + (off * wd + k) < cc.size := by omega
              simp [xs, hk, Array.getElem?_eq_getElem this]
            refine ⟨_, _, xs, rfl, hcl, ⟨by simp [xs], fun w' => by simp [Builtin.lenOf], fun w' hw' => ?_⟩, fun i hi j k hk => ?_⟩
            · simp only [Builtin.firstCells]
              have hb' : w'.heap[L.blk]? = some (.cells cc ty fr) := by rw [hw']; exact hb
              have := run_loadCells_list (P := P) w' ⟨L.blk, L.base + off * L.wid, none⟩ xs (fun k x hk => by
                have hkn : k < m * wd := by have := (List.getElem?_eq_some_iff.1 hk).1; simpa [xs] using this
                rw [addr_add, cell_of_row w' L.blk _ cc ty fr hb', ← hk, ← hxs k hkn, hwd]
                congr 1; omega)
              rw [show xs.length = m * wd by simp [xs]] at this
              exact this
            · obtain ⟨a1, y, a2, a3⟩ := hv (off + i) (by omega) j k hk
              refine ⟨a1, y, ?_, a3⟩
              have hj : j < wd := by have := (List.getElem?_eq_some_iff.1 hk).1; omega
              have hij : i * wd + j < m * wd := by
                have : (i + 1) * wd ≤ m * wd := Nat.mul_le_mul_right wd (by omega)
                rw [Nat.succ_mul] at this; omega
              rw [← hxs _ hij, ← a2]
              congr 1
              rw [Nat.add_mul]; omega
      · cases e
    · cases e
  · cases e

theorem storeCells_nil {P : Program} {w : World} (a : Addr) : (storeCells a []).run P w = .ok () w := by simp [storeCells]

/-- An append that has room: what is appended to is used up. -/
theorem append_fits {P : Program} {ρ : Ren} {w : World} {h h' : Hp} {t t2 e a : TypeId} {wd by_ n m cap b b' off : Nat} {S X : Value} {olds news : List Value} {o o' : AO} {c0 : Option Nat} (ty : AppTy P t t2 e wd by_) (hX : Reads P w wd n X news) (hS : Reads P w wd m S olds)
    (hone : ∀ v ∈ news, oneV v = true) (hg : get h.heap b = some o) (hobjk : (∃ cs, o = .cells wd cs) ∨ ∃ sh len f, o = .arr wd sh false len f) (ro' : o'.ro = false)
    (hden : den ρ (.ss wd b off m c0) = some S) {base : Option Addr} (hcap : S = .slice base m cap) (hfit : m + n ≤ cap)
    (hnew : (eatB h b).new o' = some (b', h')) (hf : Fresh ρ h.nxt h.hi) (hr : HeapRep P ρ h.heap w) (ho : Holds P ρ wd (m + n) (olds ++ news) o')
    (ho0 : m + n = 0 → ∀ (ρ' : Ren) (w' : World) (L : Loc), L.wid = wd → L.cap = 0 → ObjRep P ρ' w' L o') :
    ∃ ρ' w' z, (Builtin.append_ #[t, t2] a #[S, X]).run P w = .ok z w' ∧ den ρ' (.ss wd b' 0 (m + n) none) = some z ∧ (m + n ≠ 0 → ∃ L, ρ' b' = some L ∧ L.isnil = false) ∧ Step P ρ h w ρ' h' w' := by
  obtain ⟨e2, hu2⟩ := ty.u2
  obtain ⟨hX1, hX2, hX3⟩ := hX
  obtain ⟨hS1, hS2, hS3⟩ := hS
  have hwd1 := ty.w1
  have ro : o.ro = false := by rcases hobjk with ⟨_, rfl⟩ | ⟨_, _, _, rfl⟩ <;> rfl
  obtain ⟨rfl, hlt, rfl⟩ := new_spec hnew
  have hρb : ρ h.nxt = none := hf _ (Nat.le_refl _) hlt
  have hle : ∀ L', Le ρ (ρ.set h.nxt L') := fun L' => Ren.le_set hρb
  obtain ⟨L, hL, hwd, hL0⟩ := den_ss hden
  have hown : ∀ (L' : Loc), (L'.cap ≠ 0 → L'.blk = L.blk ∧ L.cap ≠ 0) → ∀ n o1 l, get ((h.nxt, o') :: del h.heap b) n = some o1 → (ρ.set h.nxt L') n = some l → l.cap ≠ 0 → l.blk < w.heap.size → ∃ m o' l', get h.heap m = some o' ∧ o'.ro = o1.ro ∧ ρ m = some l' ∧ l'.cap ≠ 0 ∧ l'.blk = l.blk ∧ (m = n ∨ m ∈ add b h.wr) := by
    intro L' hL' n o1 l h1 h2 h3 h4
    by_cases hn : n = h.nxt
    · subst hn; rw [Ren.set_same] at h2; cases h2
      simp [get] at h1; subst h1
      exact ⟨b, o, L, hg, ro.trans ro'.symm, hL, (hL' h3).2, (hL' h3).1.symm, .inr (mem_add.2 (.inl rfl))⟩
    · have : Nat.beq h.nxt n = false := by rw [← Bool.not_eq_true, Nat.beq_eq]; exact fun e => hn e.symm
      simp only [get, this] at h1
      rw [get_del] at h1
      by_cases hnb : n = b
      · simp [hnb] at h1
      · simp [hnb] at h1
        obtain ⟨l0, hl0⟩ := hr.loc h1
        rw [hle L' n l0 hl0] at h2; cases h2
        exact ⟨n, o1, _, h1, rfl, hl0, h3, rfl, .inl rfl⟩
  have hmono : ∀ L' n l, ρ n = none → (ρ.set h.nxt L') n = some l → h.nxt ≤ n ∧ n < h.nxt + 1 := by
    intro L' n l e1 e2
    by_cases hm : n = h.nxt
    · subst hm; omega
    · simp [Ren.set, hm, e1] at e2
  rcases hL0 with ⟨hnil, rfl, rfl, hc0, rfl⟩ | ⟨hnil, hcl, hcapL, rfl⟩
  ·
    simp at hcap; obtain ⟨rfl, hcap⟩ := hcap; subst hcap
    have hn0 : n = 0 := by omega
    subst hn0
    have hnews : news = [] := by simpa using hX1
    subst hnews
    have hrun := run_append_fits (a := a) (w' := w) (m := 0) (cap := 0) (base := none) (X := X) ty.u hu2 ty.s (hX2 w) (hX3 w rfl) (Nat.le_refl _) (by simp)
    let L' : Loc := ⟨0, 0, wd, 0, true⟩
    refine ⟨ρ.set h.nxt L', w, _, hrun, by simp [den, eatB, Ren.set_same, Loc.slice, L', capOr], fun h => absurd rfl h, ⟨hle L', hmono L', ?_, Fr.refl _ _, hown L' (by simp [L'])⟩⟩
    exact HeapRep.reuse hr hg ro ro' hL hρb (by simp [L']) (fun _ _ => rfl) (ho0 rfl _ _ L' rfl rfl)
  · simp at hcap; obtain ⟨rfl, hcap⟩ := hcap
    by_cases hcap0 : cap = 0
    · subst hcap0
      have hm0 : m = 0 := by omega
      have hn0 : n = 0 := by omega
      subst hm0; subst hn0
      have hnews : news = [] := by simpa using hX1
      subst hnews
      have hrun := run_append_fits (a := a) (w' := w) (m := 0) (cap := 0) (base := some ⟨L.blk, L.base + off * L.wid, none⟩) (X := X) ty.u hu2 ty.s (hX2 w) (hX3 w rfl) (Nat.le_refl _) (storeCells_nil _)
      let L' : Loc := ⟨L.blk, L.base + off * L.wid, wd, 0, false⟩
      refine ⟨ρ.set h.nxt L', w, _, by rw [hcap]; exact hrun, by simp [den, eatB, Ren.set_same, Loc.slice, L', capOr], fun h => absurd rfl h, ⟨hle L', hmono L', ?_, Fr.refl _ _, hown L' (by simp [L'])⟩⟩
      exact HeapRep.reuse hr hg ro ro' hL hρb (by simp [L']) (fun _ _ => rfl) (ho0 rfl _ _ L' rfl rfl)
    · have hLc : L.cap ≠ 0 := by omega
      -- the block
      have hblk : ∃ c ty fr, w.heap[L.blk]? = some (.cells c ty fr) ∧ fr.2 ≤ fr.1 ∧ L.base + L.cap * wd ≤ c.size := by
        rcases hobjk with ⟨cs, rfl⟩ | ⟨sh, len, f, rfl⟩
        · obtain ⟨_, _, _, c, t, fr, hb, hf, _, hc2, _⟩ := hr.obj hg hL
          exact ⟨c, t, fr, hb, hf, hc2⟩
        · obtain ⟨_, _, _, _, g5⟩ := hr.obj hg hL
          obtain ⟨c, t, fr, hb, hf, hc2, _⟩ := g5 hLc
          exact ⟨c, t, fr, hb, hf rfl, hc2⟩
      obtain ⟨c, cty, fr, hb, hfr, hc2⟩ := hblk
      have hmul : (off + (m + n)) * wd ≤ L.cap * wd := Nat.mul_le_mul_right wd (by omega)
      rw [Nat.add_mul, Nat.add_mul] at hmul
      obtain ⟨w', c', r1, r2, r3, r4, r5, r6, r7, r8, r9⟩ := run_storeCells (P := P) L.blk (L.base + off * L.wid + m * wd) cty fr hfr news 0 w c hb hone (by rw [hwd, hX1]; omega)
      have hrun := run_append_fits (a := a) (w' := w') (m := m) (cap := cap) (base := some ⟨L.blk, L.base + off * L.wid, none⟩) (X := X) ty.u hu2 ty.s (hX2 w) (hX3 w rfl) hfit (by simp only [addr_add]; exact r1)
      let L' : Loc := ⟨L.blk, L.base + off * L.wid, wd, cap, false⟩
      have hold : ∀ k, k < m * wd → c[L.base + off * wd + k]? = olds[k]? := by
        intro k hk
        have h3 := hS3 w rfl
        simp only [Builtin.firstCells] at h3
        have hlt : L.base + off * wd + k < c.size := by omega
        have := run_loadCells (P := P) w ⟨L.blk, L.base + off * L.wid, none⟩ (m * wd) (fun j => (c[L.base + off * wd + j]?).getD undef) (fun j hj => by
          rw [addr_add, cell_of_row w L.blk _ c cty fr hb, hwd]
          have : L.base + off * wd + j < c.size := by omega
          simp [Array.getElem?_eq_getElem this])
        rw [this] at h3
        have h4 : ((List.range (m * wd)).map fun j => (c[L.base + off * wd + j]?).getD undef) = olds := by
          have h3' := congrArg (fun r => match r with | Result.ok x _ => Array.toList x | _ => []) h3
          simpa using h3'
        rw [← h4]
        simp [hk, Array.getElem?_eq_getElem hlt]
      have hobj : ObjRep P (ρ.set h.nxt L') w' L' o' := by
        refine ho _ _ L' c' cty fr (hle L') rfl rfl hcap0 hfit r2 hfr ?_ (fun k hk => ?_)
        · have : (off + cap) * wd ≤ L.cap * wd := Nat.mul_le_mul_right wd (by omega)
          rw [Nat.add_mul] at this
          simp only [L']
          rw [r3, hwd]; omega
        · simp only [L']
          rw [r4, hwd]
          by_cases hin : k < m * wd
          · rw [if_neg (by omega), List.getElem?_append_left (by omega)]
            exact hold k hin
          · rw [Nat.add_mul] at hk
            rw [if_pos (by omega), List.getElem?_append_right (by omega)]
            congr 1; omega
      refine ⟨ρ.set h.nxt L', w', _, by rw [hcap]; exact hrun, by simp [den, eatB, Ren.set_same, Loc.slice, L', capOr, hfit], fun _ => ⟨L', Ren.set_same _ _ _, rfl⟩, ⟨hle L', hmono L', ?_, ?_, hown L' (fun _ => ⟨rfl, hLc⟩)⟩⟩
      · exact HeapRep.reuse hr hg ro ro' hL hρb (fun _ => ⟨rfl, hLc⟩) (fun k hk => by
          rcases hk with hk | hk
          · exact r5 k hk
          · exact absurd hk hcap0) hobj
      · refine ⟨by omega, fun b' hb' hn => r5 b' (fun x => hn ⟨b, mem_add.2 (.inl rfl), o, L, hg, ro, hL, hLc, x.symm⟩), r7, r8, r9⟩

theorem holds_cells {P : Program} {ρ : Ren} {wd m : Nat} {l : List AV} {vs : List Value} (hl : l.length = m * wd) (hd : denL ρ l = some vs) : Holds P ρ wd m vs (.cells wd l) := by
  intro ρ' w' L c t fr hle hwd hnil hcap hm hb hfr hsz hc
  have hmw : m * wd ≤ L.cap * wd := Nat.mul_le_mul_right wd hm
  refine ⟨hnil, hcap, hwd, c, t, fr, hb, hfr, by omega, hsz, fun j v hj => ?_⟩
  have hjl : j < m * wd := by have := (List.getElem?_eq_some_iff.1 hj).1; omega
  obtain ⟨x, hx, hdx⟩ := denL_get _ _ hd j v hj
  exact ⟨x, by rw [hc j hjl]; exact hx, .inr (den_mono hle _ _ hdx)⟩

theorem holds_arr {P : Program} {ρ : Ren} {wd m : Nat} {sh : List CK} {f : Nat → Nat → AV} {vs : List Value} (hsh : sh.length = wd) (hd : ∀ i, i < m → ∀ (j : Nat) k, sh[j]? = some k → kindOk k (f i j) ∧ ∃ y, vs[i * wd + j]? = some y ∧ den ρ (f i j) = some y) :
    Holds P ρ wd m vs (.arr wd sh false m f) := by
  intro ρ' w' L c t fr hle hwd hnil hcap hm hb hfr hsz hc
  refine ⟨hwd, hsh, hm, fun hx => absurd (hnil.symm.trans hx) (by simp), fun _ => ⟨c, t, fr, hb, fun _ => hfr, hsz, fun i hi j k hk => ?_⟩⟩
  have hj : j < wd := by have := (List.getElem?_eq_some_iff.1 hk).1; omega
  have hij : i * wd + j < m * wd := by
    have : (i + 1) * wd ≤ m * wd := Nat.mul_le_mul_right wd (by omega)
    rw [Nat.succ_mul] at this; omega
  obtain ⟨a, y, hy, hdy⟩ := hd i hi j k hk
  exact ⟨a, y, by rw [Nat.add_assoc, hc _ hij]; exact hy, den_mono hle _ _ hdy⟩

theorem holds_arr0 {P : Program} {wd : Nat} {sh : List CK} {f : Nat → Nat → AV} (hsh : sh.length = wd) (ρ' : Ren) (w' : World) (L : Loc) (hw : L.wid = wd) (hc : L.cap = 0) : ObjRep P ρ' w' L (.arr wd sh false 0 f) :=
  ⟨hw, hsh, Nat.zero_le _, fun _ => hc, fun h => absurd hc h⟩

theorem eatB_mono (h : Hp) (b : Nat) : Mono h (eatB h b) := ⟨fun _ x => x, Nat.le_refl _, rfl, fun n hn => mem_add.2 (.inr hn)⟩

theorem get_del_some {α : Type} {l : List (Nat × α)} {b m : Nat} {o : α} (h : get (del l b) m = some o) : get l m = some o := by
  rw [get_del] at h
  by_cases hm : m = b
  · simp [hm] at h
  · simpa [hm] using h

theorem Step.uneat {P : Program} {ρ ρ' : Ren} {h h' : Hp} {w w' : World} {b : Nat} (s : Step P ρ (eatB h b) w ρ' h' w') : Step P ρ h w ρ' h' w' where
  le := s.le
  new := s.new
  rep := s.rep
  fr := ⟨s.fr.size, fun k hk hn => s.fr.same k hk (fun ⟨m, hm, o, l, h1, h2⟩ => hn ⟨m, hm, o, l, get_del_some h1, h2⟩), s.fr.tape, s.fr.os, s.fr.output⟩
  own := fun n o l h1 h2 h3 h4 => let ⟨m, o', l', g1, g2⟩ := s.own n o l h1 h2 h3 h4; ⟨m, o', l', get_del_some g1, g2⟩

/-- What it means that an append is served. -/
def AppOk (P : Program) (ρ : Ren) (w : World) (h h' : Hp) (t t2 : TypeId) (S X : Value) (r : AV) : Prop :=
  ∀ a, ∃ ρ' w' z, (Builtin.append_ #[t, t2] a #[S, X]).run P w = .ok z w' ∧ den ρ' r = some z ∧ Step P ρ h w ρ' h' w'

theorem noRoom_cap {ρ : Ren} {s : AV} {base : Option Addr} {m cap : Nat} (hs : noRoom s = true) (hd : den ρ s = some (.slice base m cap)) : cap = 0 := by
  unfold noRoom at hs
  split at hs
  · simp [den] at hd; exact hd.2.2.symm
  · obtain ⟨L, _, _, _, _, _, h⟩ := den_xs hd
    simp [capOr] at h; exact h.2.2
  · obtain ⟨L, _, _, ⟨_, _, _, _, h⟩ | ⟨_, _, _, h⟩⟩ := den_ss hd
    · simp at h; exact h.2.2
    · simp [capOr] at h; exact h.2.2
  · cases hs

/-- A slice's value written back as it stands. -/
theorem append_nothing {P : Program} {w : World} {t t2 e a : TypeId} {wd by_ m cap : Nat} {base : Option Addr} {X : Value} {news : List Value} (ty : AppTy P t t2 e wd by_) (hX : Reads P w wd 0 X news) (hm : m ≤ cap) :
    (Builtin.append_ #[t, t2] a #[.slice base m cap, X]).run P w = .ok (.slice base m cap) w := by
  obtain ⟨e2, hu2⟩ := ty.u2
  obtain ⟨hX1, hX2, hX3⟩ := hX
  have hnews : news = [] := by simpa using hX1
  subst hnews
  exact run_append_fits (a := a) (w' := w) ty.u hu2 ty.s (hX2 w) (hX3 w rfl) hm (by cases base <;> simp [storeCells])

theorem appendXX_ok {P : Program} {ρ : Ren} {w : World} {h h' : Hp} {t t2 e : TypeId} {wd by_ m n : Nat} {s x r : AV} {l rr : List AV} (ty : AppTy P t t2 e wd by_) (es : explicit h wd s = some (m, l)) (ex : explicit h wd x = some (n, rr)) (e : appendXX wd by_ s m l n rr h = some (r, h')) :
    Mono h h' ∧ (Fresh ρ h.nxt h.hi → HeapRep P ρ h.heap w → ∀ S X, den ρ s = some S → den ρ x = some X → AppOk P ρ w h h' t t2 S X r) := by
  unfold appendXX at e
  split at e
  · cases e
    refine ⟨.refl _, fun hf hr S X hS hX a => ?_⟩
    obtain ⟨_, _, base, cap, olds, rfl, hmc, _, _⟩ := explicit_ok es hr hS
    obtain ⟨_, _, _, _, news, _, _, _, hX'⟩ := explicit_ok ex hr hX
    exact ⟨ρ, w, _, append_nothing ty hX' hmc, hS, .refl hr rfl⟩
  · rename_i n
    split at e
    · cases e
    rename_i hbig
    have hbig : (m + (n + 1)) * by_ ≤ 70368744177664 := by simpa using hbig
    split at e
    · rename_i hno
      split at e
      · rename_i b h1 hnew
        cases e
        refine ⟨new_mono hnew, fun hf hr S X hS hX a => ?_⟩
        obtain ⟨hl, _, base, cap, olds, rfl, hmc, hdl, hS'⟩ := explicit_ok es hr hS
        obtain ⟨hrl, _, bx, cx, news, rfl, _, hdr, hX'⟩ := explicit_ok ex hr hX
        have hc0 := noRoom_cap hno hS
        obtain ⟨ρ', w', z, h1, h2, ⟨L, hL, hnil⟩, h3⟩ := append_makes (a := a) ty hX' hS' (by omega) hbig hnew hf hr (holds_cells (by simp [hl, hrl, Nat.add_mul]) (denL_append _ _ _ _ hdl hdr))
        refine ⟨ρ', w', z, h1, ?_, h3⟩
        simp only [den, hL, hnil] at h2 ⊢; exact h2
      · cases e
    · rename_i hroom
      split at e
      · rename_i b hb
        split at e
        · rename_i b' h1 hnew
          cases e
          refine ⟨(eatB_mono h b).trans (new_mono hnew), fun hf hr S X hS hX a => ?_⟩
          obtain ⟨hl, _, base, cap, olds, hSe, hmc, hdl, hS'⟩ := explicit_ok es hr hS
          obtain ⟨hrl, hone, bx, cx, news, rfl, _, hdr, hX'⟩ := explicit_ok ex hr hX
          have hholds := holds_cells (P := P) (ρ := ρ) (wd := wd) (m := m + (n + 1)) (l := l ++ rr) (by simp [hl, hrl, Nat.add_mul]) (denL_append _ _ _ _ hdl hdr)
          have honeV : ∀ v ∈ news, oneV v = true := by
            intro v hv
            obtain ⟨k, hk⟩ := List.mem_iff_getElem?.1 hv
            have hlen := denL_length _ _ hdr
            have hlt := (List.getElem?_eq_some_iff.1 hk).1
            obtain ⟨y, hy, hd⟩ := denL_get _ _ hdr k rr[k] (List.getElem?_eq_getElem (by omega))
            rw [hk] at hy; cases hy
            exact oneCell_den (hone _ (List.getElem_mem _)) hd
          -- the block that is appended to
          cases s with
          | xs wd' b0 off len c =>
            simp [blockOf] at hb; subst hb
            unfold explicit at es
            simp only at es
            split at es
            · rename_i hemp
              unfold isEmptyS at hemp; split at hemp
              · simp [noRoom] at hroom
              · cases hemp
            split at es
            · rename_i wd'' cs hg
              split at es
              · rename_i t0 q1 q2 q3
                have q1 := Nat.eq_of_beq_eq_true q1; subst q1
                have q2 := Nat.eq_of_beq_eq_true q2; subst q2
                split at es
                · cases es
                  have hden : den ρ (.ss wd b0 off m c) = some S := by
                    obtain ⟨L, hL, hwd, hnil, h1, h2, h3⟩ := den_xs hS
                    simp only [den, hL, hnil] at hS ⊢; exact hS
                  by_cases hfit : m + (n + 1) ≤ cap
                  · obtain ⟨ρ', w', z, h1, h2, h3, h4⟩ := append_fits (a := a) ty hX' hS' honeV hg (.inl ⟨cs, rfl⟩) rfl hden (cap := cap) hSe hfit hnew hf hr hholds (fun h => by omega)
                    obtain ⟨L, hL, hnil⟩ := h3 (by omega)
                    refine ⟨ρ', w', z, h1, ?_, h4⟩
                    simp only [den, hL, hnil] at h2 ⊢; exact h2
                  · subst hSe
                    obtain ⟨ρ', w', z, h1, h2, ⟨L, hL, hnil⟩, h3⟩ := append_makes (a := a) (h := eatB h b0) ty hX' hS' hfit hbig hnew hf (HeapRep.del hr b0) hholds
                    refine ⟨ρ', w', z, h1, ?_, h3.uneat⟩
                    simp only [den, hL, hnil] at h2 ⊢; exact h2
                · cases es
              · cases es
            · cases es
          | ss wd' b0 off len c => simp [explicit] at es
          | _ => simp [blockOf] at hb
        · cases e
      · cases e

theorem growOld_ok {P : Program} {ρ : Ren} {w : World} {h h' : Hp} {t t2 e : TypeId} {wd by_ n : Nat} {sh : List CK} {g : Nat → Nat → AV} {s r : AV} (ty : AppTy P t t2 e wd by_) (hno : noRoom s = true) (hsh : sh.length = wd) (e : growOld wd sh by_ n g s h = some (r, h')) :
    Mono h h' ∧ r ≠ .top ∧ ((∀ p ∈ h'.ob, p) → Fresh ρ h.nxt h.hi → HeapRep P ρ h.heap w → ∀ base m cap X news, den ρ s = some (.slice base m cap) → m ≤ cap → Reads P w wd n X news →
      (∀ i, i < n → ∀ (j : Nat) k, sh[j]? = some k → kindOk k (g i j) ∧ ∃ y, news[i * wd + j]? = some y ∧ den ρ (g i j) = some y) → AppOk P ρ w h h' t t2 (.slice base m cap) X r) := by
  unfold growOld at e
  split at e
  · rename_i h1 hn
    obtain ⟨q1, o1⟩ := need_qt hn
    split at e
    · rename_i h2 hd
      cases e
      obtain ⟨q2, o2⟩ := dec_qt hd
      refine ⟨q1.mono.trans q2.mono, ?_, fun ho hf hr base m cap X news hS hmc hX hg a => ?_⟩
      · intro e; subst e; simp [noRoom] at hno
      have := o2 ho
      simp at this
      have hn0 : n = 0 := by simpa using this
      subst hn0
      exact ⟨ρ, w, _, append_nothing ty hX hmc, hS, .refl hr (q2.heap.trans q1.heap)⟩
    · rename_i h2 hd
      obtain ⟨q2, o2⟩ := dec_qt hd
      split at e
      · rename_i b h3 hnew
        cases e
        have q := q1.trans q2
        refine ⟨q.mono.trans (new_mono hnew), by simp, fun ho hf hr base m cap X news hS hmc hX hg a => ?_⟩
        have ho2 : ∀ p ∈ h2.ob, p := by rw [← new_ob hnew]; exact ho
        have := o2 ho2
        simp at this
        have hn0 : n ≠ 0 := by intro e; subst e; simp at this
        have hbig := o1 (fun p hp => ho2 p (q2.ob p hp))
        have hbig : n * by_ ≤ 70368744177664 := by simpa using hbig
        have hc0 := noRoom_cap hno hS
        have hm0 : m = 0 := by omega
        subst hc0; subst hm0
        have hf2 : Fresh ρ h2.nxt h2.hi := by rw [q.nxt, q.hi]; exact hf
        have hr2 : HeapRep P ρ h2.heap w := by rw [q.heap]; exact hr
        have hS0 : Reads P w wd 0 (.slice base 0 0) [] := ⟨by simp, fun w' => by simp [Builtin.lenOf], fun w' _ => by cases base <;> simp [Builtin.firstCells, loadCells, loadCellsFrom]⟩
        obtain ⟨ρ', w', z, h1, h2', _, h3⟩ := append_makes (a := a) (m := 0) (n := n) (olds := []) ty hX hS0 (by omega) (by simpa using hbig) hnew hf2 hr2 (by simpa using holds_arr hsh hg)
        refine ⟨ρ', w', z, h1, by simpa using h2', (Step.refl hr q.heap).trans h3 q.mono (new_mono hnew)⟩
      · cases e
    · cases e
  · cases e

theorem Step.of_hints {P : Program} {ρ ρ' : Ren} {h h' : Hp} {w w' : World} {r : List Hint} (s : Step P ρ { h with hints := r } w ρ' h' w') : Step P ρ h w ρ' h' w' := ⟨s.le, s.new, s.rep, s.fr, s.own⟩
theorem growFresh_cases {wd by_ n : Nat} {sh : List CK} {g : Nat → Nat → AV} {s : AV} {h : Hp} {x : AV × Hp} (e : growFresh wd sh by_ n g s h = some x) : growOld wd sh by_ n g s h = some x ∨ (s = .nils ∧ ∃ r, growNil wd sh by_ n g { h with hints := r } = some x) := by
  unfold growFresh at e
  split at e
  · split at e
    · split at e
      · exact .inr ⟨rfl, _, e⟩
      · exact .inl e
    · exact .inl e
  · exact .inl e
theorem growOld_mono {wd by_ n : Nat} {sh : List CK} {g : Nat → Nat → AV} {s : AV} {h : Hp} {x : AV × Hp} (e : growOld wd sh by_ n g s h = some x) : Mono h x.2 := by
  unfold growOld at e
  split at e
  · rename_i h2 hn2
    have q2 := (need_qt hn2).1
    split at e
    · rename_i h3 hd3; cases e; exact q2.mono.trans (dec_qt hd3).1.mono
    · rename_i h3 hd3
      split at e
      · rename_i b h4 hnw; cases e; exact q2.mono.trans ((dec_qt hd3).1.mono.trans (new_mono hnw))
      · cases e
    · cases e
  · cases e
theorem hints_mono (h : Hp) (r : List Hint) : Mono h { h with hints := r } := ⟨fun _ x => x, Nat.le_refl _, rfl, fun _ x => x⟩
theorem hints_mono' {h h' : Hp} {r : List Hint} (m : Mono { h with hints := r } h') : Mono h h' := (hints_mono h r).trans m
theorem growNil_mono {wd by_ n : Nat} {sh : List CK} {g : Nat → Nat → AV} {h : Hp} {x : AV × Hp} (e : growNil wd sh by_ n g h = some x) : Mono h x.2 := by
  unfold growNil at e
  split at e
  · rename_i h2 hn2
    split at e
    · rename_i b h4 hnw; cases e; exact (need_qt hn2).1.mono.trans (new_mono hnw)
    · cases e
  · cases e
theorem growFresh_mono {wd by_ n : Nat} {sh : List CK} {g : Nat → Nat → AV} {s : AV} {h : Hp} {x : AV × Hp} (e : growFresh wd sh by_ n g s h = some x) : Mono h x.2 := by
  rcases growFresh_cases e with e | ⟨_, r, e⟩
  · exact growOld_mono e
  · exact hints_mono' (growNil_mono e)

/-- A name that stands for a nil slice. -/
theorem HeapRep.newNil {P : Program} {ρ : Ren} {heap : List (Nat × AO)} {w : World} (h : HeapRep P ρ heap w) {n : Nat} {o : AO} {l : Loc} (hf : ρ n = none) (hc : l.cap = 0) (ho : ObjRep P (ρ.set n l) w l o) : HeapRep P (ρ.set n l) ((n, o) :: heap) w := by
  have hle := Ren.le_set (l := l) hf
  have old : ∀ m x, m ≠ n → get ((n, o) :: heap) m = some x → get heap m = some x := by
    intro m x hm hx
    have : Nat.beq n m = false := by rw [← Bool.not_eq_true, Nat.beq_eq]; exact fun e => hm e.symm
    simpa [get, this] using hx
  refine ⟨fun m x hm => ?_, fun m k x y l1 l2 hm hk hne hro h1 h2 c1 c2 => ?_⟩
  · by_cases hmn : m = n
    · subst hmn; simp [get] at hm; subst hm; exact ⟨l, Ren.set_same ρ m l, ho⟩
    · obtain ⟨l', hl', hx⟩ := h.1 m x (old m x hmn hm)
      exact ⟨l', hle _ _ hl', hx.keep hle (fun c => rfl)⟩
  · by_cases hmn : m = n
    · subst hmn
      rw [Ren.set_same] at h1; cases h1
      exact (c1 hc).elim
    · obtain ⟨l1', hl1, hx1⟩ := h.1 m x (old m x hmn hm)
      rw [hle _ _ hl1] at h1; cases h1
      by_cases hkn : k = n
      · subst hkn
        rw [Ren.set_same] at h2; cases h2
        exact (c2 hc).elim
      · obtain ⟨l2', hl2, hx2⟩ := h.1 k y (old k y hkn hk)
        rw [hle _ _ hl2] at h2; cases h2
        exact h.2 m k x y _ _ (old m x hmn hm) (old k y hkn hk) hne hro hl1 hl2 c1 c2

theorem growNil_ok {P : Program} {ρ : Ren} {w : World} {h h' : Hp} {t t2 e : TypeId} {wd by_ n : Nat} {sh : List CK} {g : Nat → Nat → AV} {r : AV} (ty : AppTy P t t2 e wd by_) (hsh : sh.length = wd) (e : growNil wd sh by_ n g h = some (r, h')) :
    Mono h h' ∧ r ≠ .top ∧ ((∀ p ∈ h'.ob, p) → Fresh ρ h.nxt h.hi → HeapRep P ρ h.heap w → ∀ base m cap X news, den ρ .nils = some (.slice base m cap) → m ≤ cap → Reads P w wd n X news →
      (∀ i, i < n → ∀ (j : Nat) k, sh[j]? = some k → kindOk k (g i j) ∧ ∃ y, news[i * wd + j]? = some y ∧ den ρ (g i j) = some y) → AppOk P ρ w h h' t t2 (.slice base m cap) X r) := by
  have hmono := growNil_mono e
  unfold growNil at e
  split at e
  · rename_i h1 hn
    obtain ⟨q, o1⟩ := need_qt hn
    split at e
    · rename_i b h3 hnew
      cases e
      refine ⟨hmono, by simp, fun ho hf hr base m cap X news hS hmc hX hg a => ?_⟩
      have hnn := hnew
      have ho2 : ∀ p ∈ h1.ob, p := by rw [← new_ob hnew]; exact ho
      have hbig : n * by_ ≤ 70368744177664 := by simpa using o1 ho2
      obtain ⟨rfl, rfl, rfl⟩ : base = none ∧ m = 0 ∧ cap = 0 := by simp [den] at hS; exact ⟨hS.1.symm, hS.2.1.symm, hS.2.2.symm⟩
      have hf2 : Fresh ρ h1.nxt h1.hi := by rw [q.nxt, q.hi]; exact hf
      have hr2 : HeapRep P ρ h1.heap w := by rw [q.heap]; exact hr
      by_cases hn0 : n = 0
      · subst hn0
        -- a name of nothing
        unfold Hp.new at hnn
        split at hnn
        · rename_i hlt
          cases hnn
          have hlt : h1.nxt < h1.hi := by simpa [Nat.blt_eq] using hlt
          have hfr : ρ h1.nxt = none := hf2 _ (Nat.le_refl _) hlt
          let L : Loc := ⟨0, 0, wd, 0, true⟩
          have hob : ObjRep P (ρ.set h1.nxt L) w L (.arr wd sh false 0 g) := ⟨rfl, hsh, Nat.le_refl _, fun _ => rfl, fun h => (h rfl).elim⟩
          refine ⟨ρ.set h1.nxt L, w, _, append_nothing ty hX hmc, ?_, ?_⟩
          · simp [den, Ren.set_same, L, Loc.slice, capOr]
          · refine ⟨Ren.le_set hfr, ?_, ?_, Fr.refl _ _, ?_⟩
            · intro k l' e1 e2
              by_cases hm : k = h1.nxt
              · subst hm; exact ⟨by rw [q.nxt]; exact Nat.le_refl _, by simp⟩
              · simp [Ren.set, hm, e1] at e2
            · exact HeapRep.newNil hr2 hfr rfl hob
            · intro k o' l' g1 g2 g3 g4
              by_cases hm : k = h1.nxt
              · subst hm; rw [Ren.set_same] at g2; cases g2
                exact (g3 rfl).elim
              · have h1' : get h1.heap k = some o' := by
                  have : Nat.beq h1.nxt k = false := by rw [← Bool.not_eq_true, Nat.beq_eq]; exact fun e => hm e.symm
                  simpa [get, this] using g1
                obtain ⟨l0, hl0⟩ := hr2.loc h1'
                rw [Ren.le_set hfr k l0 hl0] at g2; cases g2
                exact ⟨k, o', _, by rw [← q.heap]; exact h1', rfl, hl0, g3, rfl, .inl rfl⟩
        · cases hnn
      · have hS0 : Reads P w wd 0 (.slice none 0 0) [] := ⟨by simp, fun w' => by simp [Builtin.lenOf], fun w' _ => by simp [Builtin.firstCells, loadCells, loadCellsFrom]⟩
        obtain ⟨ρ', w', z, h1', h2', _, h3'⟩ := append_makes (a := a) (m := 0) (n := n) (olds := []) ty hX hS0 (by omega) (by simpa using hbig) hnew hf2 hr2 (by simpa using holds_arr hsh hg)
        exact ⟨ρ', w', z, h1', by simpa using h2', (Step.refl hr q.heap).trans h3' q.mono (new_mono hnew)⟩
    · cases e
  · cases e

theorem growFresh_ok {P : Program} {ρ : Ren} {w : World} {h h' : Hp} {t t2 e : TypeId} {wd by_ n : Nat} {sh : List CK} {g : Nat → Nat → AV} {s r : AV} (ty : AppTy P t t2 e wd by_) (hno : noRoom s = true) (hsh : sh.length = wd) (e : growFresh wd sh by_ n g s h = some (r, h')) :
    Mono h h' ∧ r ≠ .top ∧ ((∀ p ∈ h'.ob, p) → Fresh ρ h.nxt h.hi → HeapRep P ρ h.heap w → ∀ base m cap X news, den ρ s = some (.slice base m cap) → m ≤ cap → Reads P w wd n X news →
      (∀ i, i < n → ∀ (j : Nat) k, sh[j]? = some k → kindOk k (g i j) ∧ ∃ y, news[i * wd + j]? = some y ∧ den ρ (g i j) = some y) → AppOk P ρ w h h' t t2 (.slice base m cap) X r) := by
  rcases growFresh_cases e with e | ⟨rfl, rr, e⟩
  · exact growOld_ok ty hno hsh e
  · obtain ⟨a, b, c⟩ := growNil_ok (ρ := ρ) (w := w) ty hsh e
    refine ⟨hints_mono' a, b, fun ho hf hr base m cap X news hS hmc hX hg a => ?_⟩
    obtain ⟨ρ', w', z, r1, r2, r3⟩ := c ho hf hr base m cap X news hS hmc hX hg a
    exact ⟨ρ', w', z, r1, r2, r3.of_hints⟩

theorem fitsRows_ok {sh : List CK} {l : List AV} : ∀ (n : Nat), fitsRows sh l n = true → ∀ i, i < n → ∀ (j : Nat) k, sh[j]? = some k → ∃ v, l[i * sh.length + j]? = some v ∧ kindOk k v
  | 0, _, i, hi, _, _, _ => by omega
  | n + 1, h, i, hi, j, k, hk => by
    simp only [fitsRows] at h
    split at h
    · rename_i t ht
      split at h
      · rename_i hf
        by_cases hin : i = n
        · subst hin
          obtain ⟨hlen, rfl⟩ := takeN_eq _ _ _ ht
          rw [dropN_eq] at hlen hf
          simp only [List.length_drop] at hlen
          have hj : j < sh.length := (List.getElem?_eq_some_iff.1 hk).1
          have hlt : i * sh.length + j < l.length := by omega
          refine ⟨l[i * sh.length + j], List.getElem?_eq_getElem hlt, ?_⟩
          refine fitsAll_kind hf j k _ (by simpa using hk) ?_
          rw [List.getElem?_take, if_pos hj, List.getElem?_drop]
          exact List.getElem?_eq_getElem hlt
        · exact fitsRows_ok n h i (by omega) j k hk
      · cases h
    · cases h

theorem ckBeq_eq : ∀ {a b : CK}, ckBeq a b = true → a = b
  | .int k, .int k', h => by simp [ckBeq] at h; rw [h]
  | .bool, .bool, _ => rfl
  | .val, .val, _ => rfl
  | .int _, .bool, h => by simp [ckBeq] at h
  | .int _, .val, h => by simp [ckBeq] at h
  | .bool, .int _, h => by simp [ckBeq] at h
  | .bool, .val, h => by simp [ckBeq] at h
  | .val, .int _, h => by simp [ckBeq] at h
  | .val, .bool, h => by simp [ckBeq] at h

theorem shBeq_eq : ∀ {a b : List CK}, shBeq a b = true → a = b
  | [], [], _ => rfl
  | [], _ :: _, h => by simp [shBeq] at h
  | _ :: _, [], h => by simp [shBeq] at h
  | x :: a, y :: b, h => by
    simp only [shBeq] at h
    split at h
    · rename_i h1; rw [ckBeq_eq h1, shBeq_eq h]
    · cases h

theorem appendS_ok {P : Program} {ρ : Ren} {w : World} {h h' : Hp} {t t2 e : TypeId} {wd by_ m n : Nat} {sh : List CK} {f g : Nat → Nat → AV} {s r : AV} (ty : AppTy P t t2 e wd by_) (hsh : sh.length = wd) (es : elems h wd s = some (m, f, sh)) (e : appendS wd by_ s sh m f n g h = some (r, h')) :
    Mono h h' ∧ r ≠ .top ∧ ((∀ p ∈ h'.ob, p) → Fresh ρ h.nxt h.hi → HeapRep P ρ h.heap w → ∀ base cap X olds news, den ρ s = some (.slice base m cap) → m ≤ cap → Reads P w wd n X news → Reads P w wd m (.slice base m cap) olds → (∀ v ∈ news, oneV v = true) →
      (∀ i, i < m → ∀ (j : Nat) k, sh[j]? = some k → kindOk k (f i j) ∧ ∃ y, olds[i * wd + j]? = some y ∧ den ρ (f i j) = some y) →
      (∀ i, i < n → ∀ (j : Nat) k, sh[j]? = some k → kindOk k (g i j) ∧ ∃ y, news[i * wd + j]? = some y ∧ den ρ (g i j) = some y) → AppOk P ρ w h h' t t2 (.slice base m cap) X r) := by
  unfold appendS at e
  split at e
  · rename_i hno
    obtain ⟨a, b, c⟩ := growFresh_ok (ρ := ρ) (w := w) ty hno hsh e
    exact ⟨a, b, fun ho hf hr base cap X olds news hS hmc hX _ _ _ hg => c ho hf hr base m cap X news hS hmc hX hg⟩
  · split at e
    · rename_i b hb
      split at e
      · rename_i wd0 sh0 len0 f0 hg0
        split at e
        · rename_i h1 hw0 hn
          split at e
          · rename_i b' h2 hnew
            cases e
            have hw0 := Nat.eq_of_beq_eq_true hw0; subst hw0
            obtain ⟨q, o⟩ := need_qt hn
            refine ⟨q.mono.trans ((eatB_mono h1 b).trans (new_mono hnew)), by simp, fun ho hf hr base cap X olds news hS hmc hX hS' hone hfo hgn a => ?_⟩
            have hbig := o (by have := new_ob hnew; rw [show h1.ob = h'.ob from this.symm]; exact ho)
            have hbig : (m + n) * by_ ≤ 70368744177664 := by simpa using hbig
            have hfg : ∀ i, i < m + n → ∀ (j : Nat) k, sh[j]? = some k → kindOk k (if i < m then f i j else g (i - m) j) ∧ ∃ y, (olds ++ news)[i * wd0 + j]? = some y ∧ den ρ (if i < m then f i j else g (i - m) j) = some y := by
              intro i hi j k hk
              have hj : j < wd0 := by have := (List.getElem?_eq_some_iff.1 hk).1; omega
              by_cases him : i < m
              · simp only [him, if_true]
                obtain ⟨a1, y, a2, a3⟩ := hfo i him j k hk
                refine ⟨a1, y, ?_, a3⟩
                have : (i + 1) * wd0 ≤ m * wd0 := Nat.mul_le_mul_right wd0 (by omega)
                rw [Nat.succ_mul] at this
                rw [List.getElem?_append_left (by rw [hS'.1]; omega)]; exact a2
              · simp only [him, if_false]
                obtain ⟨a1, y, a2, a3⟩ := hgn (i - m) (by omega) j k hk
                refine ⟨a1, y, ?_, a3⟩
                have hge : m * wd0 ≤ i * wd0 := Nat.mul_le_mul_right wd0 (by omega)
                rw [List.getElem?_append_right (by rw [hS'.1]; omega), hS'.1, ← a2]
                congr 1
                rw [Nat.sub_mul]; omega
            have hholds := holds_arr (P := P) (ρ := ρ) hsh hfg
            have hf1 : Fresh ρ h1.nxt h1.hi := by rw [q.nxt, q.hi]; exact hf
            have hr1 : HeapRep P ρ h1.heap w := by rw [q.heap]; exact hr
            have hg1 : get h1.heap b = some (.arr wd0 sh0 false len0 f0) := by rw [q.heap]; exact hg0
            have hq : Step P ρ h w ρ h1 w := .refl hr q.heap
            -- which slice is appended to
            have hsl : ∃ off c0, den ρ (.ss wd0 b off m c0) = some (.slice base m cap) := by
              unfold elems at es
              split at es
              · rename_i wd' b0 off' len c
                simp [blockOf] at hb; subst hb
                split at es
                · split at es
                  · rename_i q1 q2
                    cases es
                    have q1 := Nat.eq_of_beq_eq_true q1; subst q1
                    exact ⟨_, _, hS⟩
                  · cases es
                · cases es
              · cases es
            obtain ⟨off, c0, hden⟩ := hsl
            by_cases hfit : m + n ≤ cap
            · obtain ⟨ρ', w', z, r1, r2, r3, r4⟩ := append_fits (a := a) ty hX hS' hone hg1 (.inr ⟨sh0, len0, f0, rfl⟩) rfl hden rfl hfit hnew hf1 hr1 hholds (fun h0 ρ' w' L hw hc => by
                rw [h0]; exact holds_arr0 hsh ρ' w' L hw hc)
              exact ⟨ρ', w', z, r1, r2, hq.trans r4 q.mono ((eatB_mono h1 b).trans (new_mono hnew))⟩
            · obtain ⟨ρ', w', z, r1, r2, _, r3⟩ := append_makes (a := a) (h := eatB h1 b) ty hX hS' hfit hbig hnew hf1 (HeapRep.del hr1 b) hholds
              exact ⟨ρ', w', z, r1, r2, hq.trans r3.uneat q.mono ((eatB_mono h1 b).trans (new_mono hnew))⟩
          · cases e
        · cases e
      · cases e
    · cases e

theorem den_one {ρ : Ren} {l : List AV} {xs : List Value} (h : denL ρ l = some xs) (hone : ∀ u ∈ l, u.oneCell = true) : ∀ v ∈ xs, oneV v = true := by
  intro v hv
  obtain ⟨k, hk⟩ := List.mem_iff_getElem?.1 hv
  have hlen := denL_length _ _ h
  have hlt := (List.getElem?_eq_some_iff.1 hk).1
  obtain ⟨y, hy, hd⟩ := denL_get _ _ h k l[k] (List.getElem?_eq_getElem (by omega))
  rw [hk] at hy; cases hy
  exact oneCell_den (hone _ (List.getElem_mem _)) hd

theorem kind_one {ρ : Ren} {k : CK} {v : AV} {y : Value} (h : kindOk k v) (hd : den ρ v = some y) : oneV y = true := by
  cases k with
  | int k => obtain ⟨n, rfl | rfl⟩ := h <;> (simp [den] at hd; subst hd; rfl)
  | bool => obtain ⟨n, rfl | rfl⟩ := h <;> (simp [den] at hd; subst hd; rfl)
  | val => exact oneCell_den h hd

theorem rows_one {ρ : Ren} {wd n : Nat} {sh : List CK} {g : Nat → Nat → AV} {news : List Value} (hsh : sh.length = wd) (hl : news.length = n * wd) (h : ∀ i, i < n → ∀ (j : Nat) k, sh[j]? = some k → kindOk k (g i j) ∧ ∃ y, news[i * wd + j]? = some y ∧ den ρ (g i j) = some y) :
    ∀ v ∈ news, oneV v = true := by
  intro v hv
  obtain ⟨k, hk⟩ := List.mem_iff_getElem?.1 hv
  have hlt := (List.getElem?_eq_some_iff.1 hk).1
  have hwd : 0 < wd := by
    rcases Nat.eq_zero_or_pos wd with h0 | h0
    · rw [h0] at hl; simp at hl; rw [hl] at hlt; simp at hlt
    · exact h0
  have hi : k / wd < n := by rw [Nat.div_lt_iff_lt_mul hwd, ← hl]; exact hlt
  have hj : k % wd < sh.length := by rw [hsh]; exact Nat.mod_lt _ hwd
  obtain ⟨a, y, b, c⟩ := h (k / wd) hi (k % wd) _ (List.getElem?_eq_getElem hj)
  have : k / wd * wd + k % wd = k := by rw [Nat.mul_comm]; exact Nat.div_add_mod k wd
  rw [this, hk] at b; cases b
  exact kind_one a c

theorem append_ok {P : Program} {ρ : Ren} {w : World} {h h' : Hp} {t t2 : TypeId} {s x r : AV} (e : appendA P t t2 s x h = some (r, h')) :
    Mono h h' ∧ ((∀ p ∈ h'.ob, p) → Fresh ρ h.nxt h.hi → HeapRep P ρ h.heap w → ∀ S X, relS ρ s S → relS ρ x X → ∀ a, ∃ ρ' w' z, (Builtin.append_ #[t, t2] a #[S, X]).run P w = .ok z w' ∧ den ρ' r = some z ∧ Step P ρ h w ρ' h' w') := by
  unfold appendA at e
  split at e
  · rename_i el el2 hu hu2
    split at e
    · rename_i wd by_ z hs hb hz
      split at e
      · rename_i hzl hw1 hb1
        have hzl := Nat.eq_of_beq_eq_true hzl
        have hzv : ∃ zv, (∀ w' : World, (zeroValue el).run P w' = .ok zv w') ∧ zv.cells.size = wd := by
          obtain ⟨zv, _, rfl⟩ := run_zero (w := w) hz
          exact ⟨zv, fun w' => zero_int hz, by have := (zero_cells (ρ := ρ) zv).1; simp at this; omega⟩
        have ty : AppTy P t t2 el wd by_ := ⟨hu, ⟨el2, hu2⟩, hs, hb, by simpa using hb1, by simpa using hw1, hzv⟩
        have top : ∀ {v : AV} {X : Value}, relS ρ v X → v ≠ .top → den ρ v = some X := fun h hk => relS_den h hk
        split at e
        · rename_i m l hes
          have hsk : s ≠ .top := by intro e; subst e; simp [explicit] at hes
          split at e
          · rename_i n rr hex
            have hxk : x ≠ .top := by intro e; subst e; simp [explicit] at hex
            obtain ⟨a, b⟩ := appendXX_ok (ρ := ρ) (w := w) ty hes hex e
            exact ⟨a, fun ho hf hr S X hS hX => b hf hr S X (top hS hsk) (top hX hxk)⟩
          · split at e
            · rename_i n g sh h1 hel hwi hno
              have hxk : x ≠ .top := by intro e; subst e; simp [elems, explicit] at hel
              have hqw : Qt h h1 ∧ True := by
                unfold within at hwi
                split at hwi
                · split at hwi
                  · exact ⟨(need_qt hwi).1, trivial⟩
                  · cases hwi
                · cases hwi
              have q := hqw.1
              have hshl : sh.length = wd ∨ True := .inr trivial
              refine ⟨?_, ?_⟩
              · exact q.mono.trans (growFresh_mono e)
              · intro ho hf hr S X hS hX a
                have hXd := top hX hxk
                have hSd := top hS hsk
                obtain ⟨_, _, base, cap, olds, rfl, hmc, _, _⟩ := explicit_ok hes hr hSd
                have hr1 : HeapRep P ρ h1.heap w := by rw [q.heap]; exact hr
                have hf1 : Fresh ρ h1.nxt h1.hi := by rw [q.nxt, q.hi]; exact hf
                have hsh : sh.length = wd := by
                  unfold elems at hel
                  split at hel
                  · rename_i wd' b off len c
                    split at hel
                    · rename_i wd'' sh' ro len' f' hg
                      split at hel
                      · rename_i q1 q2
                        cases hel
                        have q2 := Nat.eq_of_beq_eq_true q2; subst q2
                        obtain ⟨L, hL, _⟩ := den_ss hXd
                        exact (hr.obj hg hL).2.1
                      · cases hel
                    · cases hel
                  · cases hel
                obtain ⟨m1, _, o1⟩ := growFresh_ok (ρ := ρ) (w := w) ty hno hsh e
                have ho1 : ∀ p ∈ h1.ob, p := fun p hp => ho p (m1.ob p hp)
                obtain ⟨_, bx, cx, news, rfl, _, hRX, hrows⟩ := elems_ok (P := P) hel hwi ho1 hr hXd
                obtain ⟨ρ', w', z, r1, r2, r3⟩ := o1 ho hf1 hr1 base _ cap _ news hSd hmc hRX hrows a
                exact ⟨ρ', w', z, r1, r2, (Step.refl hr q.heap).trans r3 q.mono m1⟩
            · cases e
        · split at e
          · rename_i m f sh h1 hel hwi
            have hsk : s ≠ .top := by intro e; subst e; simp [elems] at hel
            have q : Qt h h1 := by
              unfold within at hwi
              split at hwi
              · split at hwi
                · exact (need_qt hwi).1
                · cases hwi
              · cases hwi
            have hshl : HeapRep P ρ h.heap w → (∃ S, den ρ s = some S) → sh.length = wd := by
              intro hr hS
              obtain ⟨S, hS⟩ := hS
              unfold elems at hel
              split at hel
              · rename_i wd' b off len c
                split at hel
                · rename_i wd'' sh' ro len' f' hg
                  split at hel
                  · rename_i q1 q2
                    cases hel
                    have q2 := Nat.eq_of_beq_eq_true q2; subst q2
                    obtain ⟨L, hL, _⟩ := den_ss hS
                    exact (hr.obj hg hL).2.1
                  · cases hel
                · cases hel
              · cases hel
            have hel1 : elems h1 wd s = some (m, f, sh) := by
              unfold elems at hel ⊢; rw [q.heap]; exact hel
            have smono : ∀ {n : Nat} {g : Nat → Nat → AV} {h2 : Hp} {r : AV} {h3 : Hp}, appendS wd by_ s sh m f n g h2 = some (r, h3) → Mono h2 h3 := by
              intro n g h2 r h3 e
              unfold appendS at e
              split at e
              · exact growFresh_mono e
              · split at e
                · split at e
                  · split at e
                    · rename_i h4 _ hn
                      split at e
                      · rename_i hnew; cases e; exact (need_qt hn).1.mono.trans ((eatB_mono _ _).trans (new_mono hnew))
                      · cases e
                    · cases e
                  · cases e
                · cases e
            split at e
            · rename_i n rr hex
              have hxk : x ≠ .top := by intro e; subst e; simp [explicit] at hex
              split at e
              · rename_i hfr
                refine ⟨q.mono.trans (smono e), fun ho hf hr S X hS hX a => ?_⟩
                have hSd := top hS hsk
                have hXd := top hX hxk
                have hsh := hshl hr ⟨S, hSd⟩
                have hr1 : HeapRep P ρ h1.heap w := by rw [q.heap]; exact hr
                have hf1 : Fresh ρ h1.nxt h1.hi := by rw [q.nxt, q.hi]; exact hf
                obtain ⟨m1, _, o1⟩ := appendS_ok (ρ := ρ) (w := w) ty hsh hel1 e
                have ho1 : ∀ p ∈ h1.ob, p := fun p hp => ho p (m1.ob p hp)
                obtain ⟨_, base, cap, olds, rfl, hmc, hRS, hrowsS⟩ := elems_ok (P := P) hel hwi ho1 hr hSd
                obtain ⟨hrl, hone, bx, cx, news, rfl, _, hdr, hRX⟩ := explicit_ok (P := P) hex hr1 hXd
                obtain ⟨ρ', w', z, r1, r2, r3⟩ := o1 ho hf1 hr1 base cap _ olds news hSd hmc hRX hRS (den_one hdr hone) hrowsS (fun i hi j k hk => by
                  obtain ⟨v, hv, hkv⟩ := fitsRows_ok n hfr i hi j k hk
                  rw [hsh] at hv
                  obtain ⟨y, hy, hdy⟩ := denL_get _ _ hdr _ v hv
                  simp only [rowsOf, nth_eq, hv]
                  exact ⟨hkv, y, hy, hdy⟩) a
                exact ⟨ρ', w', z, r1, r2, (Step.refl hr q.heap).trans r3 q.mono m1⟩
              · cases e
            · split at e
              · rename_i n g sh2 h2 hel2 hwi2
                have hxk : x ≠ .top := by intro e; subst e; simp [elems] at hel2
                have q2 : Qt h1 h2 := by
                  unfold within at hwi2
                  split at hwi2
                  · split at hwi2
                    · exact (need_qt hwi2).1
                    · cases hwi2
                  · cases hwi2
                have hel2' : elems h2 wd s = some (m, f, sh) := by
                  unfold elems at hel1 ⊢; rw [q2.heap]; exact hel1
                split at e
                · rename_i hsb
                  have hsb := shBeq_eq hsb; subst hsb
                  refine ⟨q.mono.trans (q2.mono.trans (smono e)), fun ho hf hr S X hS hX a => ?_⟩
                  have hSd := top hS hsk
                  have hXd := top hX hxk
                  have hsh := hshl hr ⟨S, hSd⟩
                  have qq := q.trans q2
                  have hr1 : HeapRep P ρ h1.heap w := by rw [q.heap]; exact hr
                  have hr2 : HeapRep P ρ h2.heap w := by rw [qq.heap]; exact hr
                  have hf2 : Fresh ρ h2.nxt h2.hi := by rw [qq.nxt, qq.hi]; exact hf
                  obtain ⟨m1, _, o1⟩ := appendS_ok (ρ := ρ) (w := w) ty hsh hel2' e
                  have ho2 : ∀ p ∈ h2.ob, p := fun p hp => ho p (m1.ob p hp)
                  have ho1 : ∀ p ∈ h1.ob, p := fun p hp => ho2 p (q2.ob p hp)
                  obtain ⟨_, base, cap, olds, rfl, hmc, hRS, hrowsS⟩ := elems_ok (P := P) hel hwi ho1 hr hSd
                  obtain ⟨_, bx, cx, news, rfl, _, hRX, hrowsX⟩ := elems_ok (P := P) hel2 hwi2 ho2 hr1 hXd
                  obtain ⟨ρ', w', z, r1, r2, r3⟩ := o1 ho hf2 hr2 base cap _ olds news hSd hmc hRX hRS (rows_one hsh hRX.1 hrowsX) hrowsS hrowsX a
                  exact ⟨ρ', w', z, r1, r2, (Step.refl hr qq.heap).trans r3 qq.mono m1⟩
                · cases e
              · cases e
          · cases e
      · cases e
    · cases e
  · cases e

theorem appendE_ok {P : Program} {ρ : Ren} {w : World} {h h' : Hp} {t t2 : TypeId} {s x r : AV} (e : appendE P t t2 s x h = some (r, h')) :
    Mono h h' ∧ ((∀ p ∈ h'.ob, p) → Fresh ρ h.nxt h.hi → HeapRep P ρ h.heap w → ∀ S X, relS ρ s S → relS ρ x X → ∀ a, ∃ ρ' w' z, (Builtin.append_ #[t, t2] a #[S, X]).run P w = .ok z w' ∧ den ρ' r = some z ∧ Step P ρ h w ρ' h' w') := by
  unfold appendE at e
  split at e
  · rename_i v rr hh
    split at e
    · unfold appendNo at e
      split at e
      · rename_i wd' b' off' len c'
        split at e
        · rename_i el el2 hu hu2
          split at e
          · rename_i wd by_ z hs hb hz
            split at e
            · rename_i hzl hw1 hb1 hsl
              split at e
              · rename_i h1 hn
                cases e
                obtain ⟨q, o⟩ := need_qt hn
                have q' : Mono h h' := hints_mono' q.mono
                refine ⟨q', fun ho hf hr S X hS hX a => ?_⟩
                have hzl := Nat.eq_of_beq_eq_true hzl
                have hzv : ∃ zv, (∀ w' : World, (zeroValue el).run P w' = .ok zv w') ∧ zv.cells.size = wd := by
                  obtain ⟨zv, _, rfl⟩ := run_zero (w := w) hz
                  exact ⟨zv, fun w' => zero_int hz, by have := (zero_cells (ρ := ρ) zv).1; simp at this; omega⟩
                have ty : AppTy P t t2 el wd by_ := ⟨hu, ⟨el2, hu2⟩, hs, hb, by simpa using hb1, by simpa using hw1, hzv⟩
                have hl0 := Nat.eq_of_beq_eq_true (o ho)
                subst hl0
                have hXv : ∃ base cap, X = .slice base 0 cap := by
                  obtain ⟨L, _, _, ⟨_, _, _, _, rfl⟩ | ⟨_, _, _, rfl⟩⟩ := den_ss (relS_den hX (by simp))
                  · exact ⟨_, _, rfl⟩
                  · exact ⟨_, _, rfl⟩
                obtain ⟨bX, cX, rfl⟩ := hXv
                have hXr : Reads P w wd 0 (.slice bX 0 cX) [] := ⟨by simp, fun w' => by simp [Builtin.lenOf], fun w' _ => by cases bX <;> simp [Builtin.firstCells, loadCells, loadCellsFrom]⟩
                have hSd : den ρ s = some S := relS_den hS (by intro e; subst e; simp [isSl] at hsl)
                have hSv : ∃ base m cap, S = .slice base m cap ∧ m ≤ cap := by
                  unfold isSl at hsl
                  split at hsl
                  · simp [den] at hSd; exact ⟨_, _, _, hSd.symm, Nat.le_refl _⟩
                  · obtain ⟨L, _, _, _, h1, _, rfl⟩ := den_xs hSd
                    exact ⟨_, _, _, rfl, h1⟩
                  · obtain ⟨L, _, _, ⟨_, _, _, _, rfl⟩ | ⟨_, h1, _, rfl⟩⟩ := den_ss hSd
                    · exact ⟨_, _, _, rfl, Nat.le_refl _⟩
                    · exact ⟨_, _, _, rfl, h1⟩
                  · cases hsl
                obtain ⟨base, m, cap, rfl, hm⟩ := hSv
                exact ⟨ρ, w, _, append_nothing ty hXr hm, hSd, Step.refl hr q.heap⟩
              · cases e
            · cases e
          · cases e
        · cases e
      · cases e
    · exact append_ok e
  · exact append_ok e

end Go.Ev

/-
  Map entries as operations of their own.
-/
set_option linter.unusedSimpArgs false
set_option linter.unusedVariables false
namespace Go.Ev
theorem set_twice {α : Type} : ∀ (l : List (Nat × α)) (k : Nat) (x y : α), set (set l k x) k y = set l k y
  | [], k, x, y => by simp [set]
  | (n, z) :: r, k, x, y => by
    simp only [set]
    split
    · rename_i h; simp [set, h]
    · rename_i h; simp only [set, h, set_twice r k x y]

theorem entry_run {P : Program} {ρ : Ren} {w : World} {t : TypeId} {key : AV} {h : Hp} {ks : List CK} {agg : Bool} {vk : IntKind} {b : Nat} {k : List Int} {f : List Int → Option Int} {z0 : Bool} (hmk : mapKinds P t = some (ks, agg, vk)) (hz : zeroOk P t vk = some z0)
    (hk : keyOf ks agg key = some k) (hg : get h.heap b = some (.map t f)) (hr : HeapRep P ρ h.heap w) {M K : Value} (hM : relS ρ (.map b) M) (hK : relS ρ key K) :
    ∃ L s w1, ρ b = some L ∧ M = .map (some L.blk) ∧ keyWf ks k ∧ (Instr.mapEntry t M K).run P w = .ok (.tuple #[.int vk (mval f k), goInt (s : Nat)]) w1 ∧
      Step P ρ h w ρ (h.put b (.map t (setKey f k (some (mval f k))))) w1 ∧ ∃ es c, w1.heap[L.blk]? = some (.map es c) ∧ ∃ e, e ∈ es.toList ∧ e.key = keyVal ks agg k ∧ e.born = s := by
  have hu : updateA P t (.map b) key (.sym vk (mval f k)) h = some (h.put b (.map t (setKey f k (some (mval f k))))) := by
    simp [updateA, hmk, asI, hk, hg]
  obtain ⟨w', hrun, st⟩ := (update_ok (ρ := ρ) (w := w) hu).2 hr M K (.int vk (mval f k)) hM hK (.inr rfl)
  obtain ⟨kt, et, ty⟩ := mapKinds_ty hmk
  obtain ⟨rfl, hw⟩ := keyOf_den ty hk hK
  have hd := relS_den hM (by simp)
  simp only [den] at hd
  cases hb : ρ b with
  | none => simp [hb] at hd
  | some L =>
    simp only [hb] at hd; cases hd
    obtain ⟨h0, h1, ks', agg', vk', hmk', es, clock, hblk, hbo, kl, hes, hnd, hkw, hf⟩ := hr.obj hg hb
    rw [hmk] at hmk'; cases hmk'
    have hlt : L.blk < w.heap.size := (Array.getElem?_eq_some_iff.1 hblk).1
    have hfind := findKey_ok (w := w) ty hw hes hkw
    have hget : (getObj L.blk).run P w = .ok (.map es clock) w := by simp [getObj, Sem.run, hblk]
    have hchk := checkKey_ok (w := w) ty hw false
    have hzr := zero_run (w := w) ty hz
    have hfk : f k = (findK k kl 0).map (·.2) := by rw [hf k hw, findK_find]
    cases hfo : findK k kl 0 with
    | none =>
      rw [hfo] at hfind hfk
      simp at hfk
      have hmv : mval f k = 0 := by simp [mval, hfk]
      rw [hmv] at hrun st ⊢
      have hW : (Instr.mapUpdate t (.map (some L.blk)) (keyVal ks agg k) (.int vk 0)).run P w = .ok () { w with heap := w.heap.setIfInBounds L.blk (.map (es.push { key := keyVal ks agg k, val := .int vk 0, born := clock }) (clock + 1)) } := by
        simp [Instr.mapUpdate, run_underlying' ty.map, hget, hchk, hfind, run_setObj _ hblk]
      rw [hW] at hrun; cases hrun
      refine ⟨L, clock, _, rfl, rfl, hw, ?_, st, es.push { key := keyVal ks agg k, val := .int vk 0, born := clock }, clock + 1, by simp [hlt], { key := keyVal ks agg k, val := .int vk 0, born := clock }, by simp, rfl, rfl⟩
      simp [Instr.mapEntry, run_underlying' ty.map, hget, hchk, hfind, hzr, run_setObj _ hblk]
    | some p =>
      obtain ⟨i, n0⟩ := p
      rw [hfo] at hfind hfk
      simp at hfk
      have hmv : mval f k = n0 := by simp [mval, hfk]
      rw [hmv] at hrun st ⊢
      obtain ⟨_, hi⟩ := findK_some kl 0 i n0 hfo
      simp only [Nat.sub_zero] at hi
      have hi2 : (es.toList.map (fun e => (e.key, e.val)))[i]? = some (keyVal ks agg k, .int vk n0) := by rw [hes]; simp [hi]
      simp only [List.getElem?_map] at hi2
      cases hei : es.toList[i]? with
      | none => simp [hei] at hi2
      | some e0 =>
        simp [hei] at hi2
        have hei' : es[i]? = some e0 := by simpa using hei
        have hilt : i < es.size := (Array.getElem?_eq_some_iff.1 hei').1
        have hstay : (Instr.keyThatStays (((es[i]?).map (·.key)).getD (keyVal ks agg k)) (keyVal ks agg k)).run P w = .ok (keyVal ks agg k) w := by
          simp [Instr.keyThatStays, hei', hi2.1, sameBits_key ty hw]
        have hW : (Instr.mapUpdate t (.map (some L.blk)) (keyVal ks agg k) (.int vk n0)).run P w = .ok () { w with heap := w.heap.setIfInBounds L.blk (.map (es.modify i fun e => { e with key := keyVal ks agg k, val := .int vk n0 }) clock) } := by
          simp only [Instr.mapUpdate, Sem.run_bind, run_underlying' ty.map, Result.andThen_ok, hget, hchk, hfind, Option.map_some, hstay, run_setObj _ hblk]
        rw [hW] at hrun; cases hrun
        have hmod : (es.modify i fun e => { e with key := keyVal ks agg k }) = es.modify i fun e => { e with key := keyVal ks agg k, val := .int vk n0 } := by
          apply Array.ext_getElem?
          intro j
          simp only [Array.getElem?_modify]
          by_cases hj : i = j
          · subst hj; simp [hei', ← hi2.2]
          · simp [hj]
        refine ⟨L, e0.born, _, rfl, rfl, hw, ?_, st, es.modify i fun e => { e with key := keyVal ks agg k, val := .int vk n0 }, clock, by simp [hlt], { e0 with key := keyVal ks agg k, val := .int vk n0 }, ?_, rfl, rfl⟩
        · simp only [Instr.mapEntry, Sem.run_bind, run_underlying' ty.map, Result.andThen_ok, hget, hchk, hfind, Option.map_some, hstay, run_setObj _ hblk, Sem.run_pure, hmod]
          simp [hei']
        · refine List.mem_of_getElem? (i := i) ?_
          simp [Array.getElem?_modify, hei']

theorem add_twice (b : Nat) (l : List Nat) : add b (add b l) = add b l := by
  have : mem b (add b l) = true := (mem_iff b _).2 (mem_add.2 (.inl rfl))
  rw [add, this]

theorem entryA_ok {P : Program} {ρ : Ren} {w : World} {t : TypeId} {m key r : AV} {h h' : Hp} (e : entryA P t m key h = some (r, h')) :
    Mono h h' ∧ r ≠ .top ∧ (Fresh ρ h.nxt h.hi → HeapRep P ρ h.heap w → ∀ M K, relS ρ m M → relS ρ key K → ∃ ρ' x w', (Instr.mapEntry t M K).run P w = .ok x w' ∧ den ρ' r = some x ∧ Step P ρ h w ρ' h' w') := by
  unfold entryA at e
  split at e
  · rename_i ks agg vk b hmk
    split at e
    · rename_i z0 k t' f hz hk hg hlt
      split at e
      · rename_i htt
        have htt := Nat.eq_of_beq_eq_true htt; subst htt
        have hlt : h.nxt < h.hi := by simpa [Nat.blt_eq] using hlt
        cases e
        refine ⟨⟨fun p x => x, Nat.le_succ _, rfl, fun n x => mem_add.2 (.inr x)⟩, by simp, fun hf hr M K hM hK => ?_⟩
        obtain ⟨L, s, w1, hb, rfl, hw, hrun, st, es, c, hblk, e0, he1, he2, he3⟩ := entry_run hmk hz hk hg hr hM hK
        let f1 := setKey f k (some (mval f k))
        let h1 := h.put b (.map t f1)
        let ls : Loc := ⟨s, 0, 0, 0, false⟩
        have st2 := name_step (h := h1) st.rep hf hlt ls rfl
        have hn : ρ h.nxt = none := hf _ (Nat.le_refl _) hlt
        have hbn : b ≠ h.nxt := fun x => by rw [x, hn] at hb; cases hb
        have hb' : (ρ.set h.nxt ls) b = some L := by rw [Ren.set_ne hbn]; exact hb
        have hg1 : get h1.heap b = some (.map t f1) := by simp [h1, Hp.put, get_set]
        obtain ⟨l', hl', ho⟩ := st2.rep.1 b _ hg1
        rw [show (ρ.set h1.nxt ls) = ρ.set h.nxt ls from rfl, hb'] at hl'; cases hl'
        obtain ⟨h0, hc, ks', agg', vk', hmk', es', clock, hblk', hbo, hm⟩ := ho
        rw [hmk] at hmk'; cases hmk'
        rw [hblk] at hblk'; cases hblk'
        have st3 := put_step (h := { h1 with nxt := h1.nxt + 1 }) (w' := w1) (o' := .mapP t f1 h.nxt k) st2.rep hg1 rfl rfl hb' hc (fun _ _ => rfl) (Nat.le_refl _) rfl rfl rfl
          ⟨h0, hc, ks, agg, vk, hmk, hw, es, c, hblk, hbo, hm, ls, e0, Ren.set_same _ _ _, he1, he2, he3⟩
        have m1 : Mono h h1 := put_mono _ _ _
        have m2 : Mono h1 { h1 with nxt := h1.nxt + 1 } := ⟨fun p x => x, Nat.le_succ _, rfl, fun n x => x⟩
        have st4 := (st.trans st2 m1 m2).trans st3 (m1.trans m2) (put_mono _ _ _)
        refine ⟨ρ.set h.nxt ls, _, w1, hrun, ?_, ?_⟩
        · simp [den, denL, Ren.set_same, ls]
        · have : ({ h1 with nxt := h1.nxt + 1 } : Hp).put b (.mapP t f1 h.nxt k) = { (h.put b (.mapP t f1 h.nxt k)) with nxt := h.nxt + 1 } := by
            simp [h1, Hp.put, set_twice, add_twice]
          rw [this] at st4
          exact st4
      · cases e
    · cases e
  · cases e

theorem keyCells_inj : ∀ (ks : List CK) (l l' : List Int), keyWf ks l → keyWf ks l' → keyCells ks l = keyCells ks l' → l = l'
  | [], [], [], _, _, _ => rfl
  | [], _ :: _, _, h, _, _ => by simp [keyWf] at h
  | [], [], _ :: _, _, h, _ => by simp [keyWf] at h
  | .int _ :: _, [], _, h, _, _ => by simp [keyWf] at h
  | .int _ :: _, _ :: _, [], _, h, _ => by simp [keyWf] at h
  | .bool :: _, [], _, h, _, _ => by simp [keyWf] at h
  | .bool :: _, _ :: _, [], _, h, _ => by simp [keyWf] at h
  | .val :: _, [], _, h, _, _ => by simp [keyWf] at h
  | .val :: _, _ :: _, _, h, _, _ => by simp [keyWf] at h
  | .int k :: ks, n :: ns, n' :: ns', h, h', e => by
    simp only [keyCells, cellKey, List.cons.injEq, Value.int.injEq, true_and] at e
    rw [e.1, keyCells_inj ks ns ns' h h' e.2]
  | .bool :: ks, n :: ns, n' :: ns', h, h', e => by
    simp only [keyCells, cellKey, List.cons.injEq, Value.bool.injEq] at e
    rw [keyCells_inj ks ns ns' h.2 h'.2 e.2]
    have : n = n' := by
      rcases h.1 with rfl | rfl <;> rcases h'.1 with rfl | rfl <;> simp at e <;> rfl
    rw [this]

theorem keyVal_inj {P : Program} {t kt et : TypeId} {ks : List CK} {agg : Bool} {vk : IntKind} (ty : MapTy P t ks agg vk kt et) {k k' : List Int} (h : keyWf ks k) (h' : keyWf ks k') (e : keyVal ks agg k = keyVal ks agg k') : k = k' := by
  rcases ty.key with ⟨kk, hu, rfl, rfl⟩ | ⟨fs, hu, rfl, hs, hl⟩
  · match k, k', h, h' with
    | [m], [m'], _, _ => simpa [keyVal, keyCells, cellKey] using e
    | [], _, h, _ => simp [keyWf] at h
    | _ :: _ :: _, _, h, _ => simp [keyWf] at h
    | [_], [], _, h => simp [keyWf] at h
    | [_], _ :: _ :: _, _, h => simp [keyWf] at h
  · exact keyCells_inj ks k k' h h' (by simpa [keyVal] using e)

/-- An entry's value is set: what the map says then. -/
theorem rep_set {ks : List CK} {agg : Bool} {vk : IntKind} {es : Array MapEntry} {f : List Int → Option Int} {kl : List (List Int × Int)} {i : Nat} {k : List Int} {n0 n : Int} {e0 : MapEntry}
    (hes : es.toList.map (fun e => (e.key, e.val)) = kl.map (fun x => (keyVal ks agg x.1, Value.int vk x.2))) (hnd : (kl.map (·.1)).Nodup) (hkw : ∀ x ∈ kl, keyWf ks x.1) (hf : ∀ k, keyWf ks k → f k = (kl.find? (fun x => x.1 == k)).map (·.2))
    (hi : kl[i]? = some (k, n0)) (hei : es[i]? = some e0) (hek : e0.key = keyVal ks agg k) : MapRep ks agg vk (es.modify i fun e => { e with val := .int vk n }).toList (setKey f k (some n)) := by
  have hw : keyWf ks k := hkw (k, n0) (List.mem_of_getElem? hi)
  have hkl : ∀ (j : Nat), (kl.modify i (fun x => (k, n)))[j]? = if j = i then some (k, n) else kl[j]? := by
    intro j
    rw [List.getElem?_modify]
    by_cases hj : j = i
    · subst hj; simp [hi]
    · simp [hj, Ne.symm hj]
  have hfst : (kl.modify i (fun x => (k, n))).map (·.1) = kl.map (·.1) := by
    refine List.ext_getElem? fun j => ?_
    rw [List.getElem?_map, hkl, List.getElem?_map]
    by_cases hj : j = i
    · subst hj; simp [hi]
    · simp [hj]
  refine ⟨kl.modify i (fun x => (k, n)), ?_, by rw [hfst]; exact hnd, ?_, fun k' hk' => ?_⟩
  · refine List.ext_getElem? fun j => ?_
    have hj0 : (es.toList.map (fun e => (e.key, e.val)))[j]? = (kl.map (fun x => (keyVal ks agg x.1, Value.int vk x.2)))[j]? := by rw [hes]
    simp only [List.getElem?_map] at hj0 ⊢
    rw [hkl, Array.getElem?_toList, Array.getElem?_modify]
    by_cases hj : j = i
    · subst hj; simp [hei, hek]
    · simp only [hj, if_false, Ne.symm hj]
      simpa using hj0
  · intro x hx
    obtain ⟨j, hj⟩ := List.mem_iff_getElem?.1 hx
    rw [hkl] at hj
    split at hj
    · cases hj; exact hw
    · exact hkw x (List.mem_of_getElem? hj)
  · simp only [setKey]
    by_cases hkk : k' = k
    · subst hkk
      rw [if_pos rfl, find_map_eq (i := i) (n := n) (by rw [hfst]; exact hnd) (by rw [hkl, if_pos rfl])]
      rfl
    · rw [if_neg hkk, hf k' hk']
      cases hfk : kl.find? (fun x => x.1 == k') with
      | none =>
        have : (kl.modify i (fun x => (k, n))).find? (fun x => x.1 == k') = none := by
          rw [List.find?_eq_none] at hfk ⊢
          intro x hx
          obtain ⟨j, hj⟩ := List.mem_iff_getElem?.1 hx
          rw [hkl] at hj
          split at hj
          · cases hj; simpa using Ne.symm hkk
          · exact hfk x (List.mem_of_getElem? hj)
        rw [this]
      | some x =>
        have hx := List.find?_some hfk
        have hx1 : x.1 = k' := by simpa using hx
        obtain ⟨j, hj⟩ := List.mem_iff_getElem?.1 (List.mem_of_find?_eq_some hfk)
        have hji : j ≠ i := by
          intro e; subst e; rw [hi] at hj; cases hj; exact hkk hx1.symm
        obtain ⟨x1, x2⟩ := x
        simp only at hx1; subst hx1
        rw [find_map_eq (i := j) (n := x2) (by rw [hfst]; exact hnd) (by rw [hkl, if_neg hji]; exact hj)]

theorem entryStoreA_ok {P : Program} {ρ : Ren} {w : World} {t : TypeId} {m s v : AV} {h h' : Hp} (e : entryStoreA P t m s v h = some h') :
    Mono h h' ∧ (HeapRep P ρ h.heap w → ∀ M S V, relS ρ m M → relS ρ s S → relS ρ v V → ∃ w', (Instr.entryStore t M S V).run P w = .ok () w' ∧ Step P ρ h w ρ h' w') := by
  unfold entryStoreA at e
  split at e
  · rename_i ks agg vk b n vk' c x hmk hv
    split at e
    · rename_i t' f n' k hg hvk
      split at e
      · rename_i htt hnn
        have htt := Nat.eq_of_beq_eq_true htt; subst htt
        have hnn := Nat.eq_of_beq_eq_true hnn; subst hnn
        have hvk := of_decide_eq_true hvk; subst hvk
        cases e
        refine ⟨put_mono _ _ _, fun hr M S V hM hS hV => ?_⟩
        obtain ⟨kt, et, ty⟩ := mapKinds_ty hmk
        obtain ⟨hv1, hv2⟩ := asI_den (ρ := ρ) hv
        have := relS_den hV hv2; rw [hv1] at this; cases this
        obtain ⟨L, hb, h0, hc, ks', agg', vk', hmk', hw, es, clock, hblk, hbo, hm, ls, e0, hls, hmem, hek, heb⟩ := hr.1 b _ hg
        rw [hmk] at hmk'; cases hmk'
        have hd := relS_den hM (by simp)
        simp only [den, hb] at hd; cases hd
        have hs := relS_den hS (by simp)
        simp only [den, hls] at hs; cases hs
        have hlt : L.blk < w.heap.size := (Array.getElem?_eq_some_iff.1 hblk).1
        obtain ⟨kl, hes, hnd, hkw, hf⟩ := hm
        obtain ⟨i, hei⟩ := List.mem_iff_getElem?.1 hmem
        have hei' : es[i]? = some e0 := by simpa using hei
        have hilt : i < es.size := (Array.getElem?_eq_some_iff.1 hei').1
        have hei2 : es[i] = e0 := (Array.getElem?_eq_some_iff.1 hei').2
        have hi2 : (es.toList.map (fun e => (e.key, e.val)))[i]? = some (e0.key, e0.val) := by simp [hei']
        rw [hes, List.getElem?_map] at hi2
        cases hki : kl[i]? with
        | none => simp [hki] at hi2
        | some p =>
          obtain ⟨k1, n0⟩ := p
          simp [hki] at hi2
          have hk1 : k1 = k := keyVal_inj ty (hkw _ (List.mem_of_getElem? hki)) hw (hi2.1.trans hek)
          subst hk1
          have hidx : es.findIdx? (fun e => (e.born : Int) == (ls.blk : Int)) = some i := by
            rw [Array.findIdx?_eq_some_iff_getElem]
            refine ⟨hilt, by rw [hei2, heb]; simp, fun j hj => ?_⟩
            have hjs : j < es.size := by omega
            simp only [beq_iff_eq, Int.natCast_inj]
            intro hbe
            have q1 : (es.toList.map (·.born))[j]? = some es[j].born := by simp [hjs]
            have q2 : (es.toList.map (·.born))[i]? = some es[j].born := by rw [List.getElem?_map, hei]; simp [hbe, heb]
            have := (List.getElem?_inj (List.getElem?_eq_some_iff.1 q1).1 hbo.2).1 (q1.trans q2.symm)
            omega
          have hget : (getObj L.blk).run P w = .ok (.map es clock) w := by simp [getObj, Sem.run, hblk]
          refine ⟨{ w with heap := w.heap.setIfInBounds L.blk (.map (es.modify i fun e => { e with val := .int vk x }) clock) }, ?_, ?_⟩
          · simp only [Instr.entryStore, Sem.run_bind, Result.andThen_ok, hget, asInt, asIntOf, goInt, Sem.run_pure, hidx, run_setObj _ hblk]
          · exact put_step hr hg rfl rfl hb hc (fun q hq => by simp [Array.getElem?_setIfInBounds_ne (Ne.symm hq)]) (by simp) rfl rfl rfl
              ⟨h0, hc, ks, agg, vk, hmk, es.modify i fun e => { e with val := .int vk x }, clock, by simp [hlt], born_modify hbo (fun _ => rfl), rep_set hes hnd hkw hf hki hei' hek⟩
      · cases e
    · cases e
  · cases e
end Go.Ev

/-
  An operation that calls no Go function: the soundness of the evaluator, ninth part.
-/
set_option linter.unusedSimpArgs false
set_option linter.unusedVariables false
namespace Go.Ev

theorem evA_ok {ρ : Ren} (G : GOk ρ) {tmps : List AV} {x : Operand} {v : AV} (e : evA tmps x = some v) {a : Act} (hr : RelL ρ tmps a.tmps.toList) : relS ρ v (a.eval x) := by
  cases x with
  | tmp t =>
    simp only [evA, nth_eq] at e
    obtain ⟨y, hy, h⟩ := hr.2 t v e
    simp only [Array.getElem?_toList] at hy
    simp only [Act.eval, Array.getD_eq_getD_getElem?, hy, Option.getD_some]
    exact h
  | const c => simp only [evA] at e; cases e; exact .inr (ofVal_den ρ c)
  | global g =>
    simp only [evA] at e; cases e
    obtain ⟨l, hl, h1, h2, h3⟩ := G g
    exact .inr (by simp [den, hl, h1, h2, h3, Act.eval])
  | func f => simp only [evA] at e; cases e; exact .inr (by simp [den, denL, Act.eval])

theorem evAll_ok {ρ : Ren} (G : GOk ρ) {tmps : List AV} {a : Act} (hr : RelL ρ tmps a.tmps.toList) : ∀ (xs : List Operand) (l : List AV), evAll tmps xs = some l → RelL ρ l (xs.map a.eval)
  | [], l, e => by simp [evAll] at e; subst e; exact ⟨rfl, by simp⟩
  | x :: r, l, e => by
    simp only [evAll] at e
    split at e
    · cases e
    rename_i v hv
    split at e
    · cases e
    rename_i l' hl
    cases e
    have ih := evAll_ok G hr r l' hl
    refine ⟨by simp [ih.1], fun k u hk => ?_⟩
    cases k with
    | zero => simp at hk; subst hk; exact ⟨a.eval x, by simp, evA_ok G hv hr⟩
    | succ k =>
      simp at hk
      obtain ⟨y, hy, h⟩ := ih.2 k u hk
      exact ⟨y, by simpa using hy, h⟩

theorem partOk_known {v : AV} (h : v.partOk = true) : v ≠ .top := by intro e; subst e; simp [AV.partOk, AV.oneCell] at h

theorem evParts_ok {ρ : Ren} (G : GOk ρ) {tmps : List AV} {a : Act} (hr : RelL ρ tmps a.tmps.toList) : ∀ (xs : List (Nat × Operand)) (l : List (Nat × AV)), evParts tmps xs = some l → PartsRel ρ l (xs.map fun (i, x) => (i, a.eval x))
  | [], l, e => by simp [evParts] at e; subst e; exact ⟨rfl, by simp⟩
  | (i, x) :: r, l, e => by
    simp only [evParts] at e
    split at e
    · cases e
    rename_i v hv
    split at e
    · rename_i l' hp hl
      cases e
      have ih := evParts_ok G hr r l' hl
      refine ⟨by simp [ih.1], fun k j u hk => ?_⟩
      cases k with
      | zero => simp at hk; obtain ⟨rfl, rfl⟩ := hk; exact ⟨hp, a.eval x, by simp, relS_den (evA_ok G hv hr) (partOk_known hp)⟩
      | succ k =>
        simp at hk
        obtain ⟨p, y, hy, h⟩ := ih.2 k j u hk
        exact ⟨p, y, by simpa using hy, h⟩
    · cases e

theorem evOpt_ok {ρ : Ren} (G : GOk ρ) {tmps : List AV} {a : Act} (hr : RelL ρ tmps a.tmps.toList) {x : Option Operand} {v : Option AV} (e : evOpt tmps x = some v) : OptRel ρ v (x.map a.eval) := by
  cases x with
  | none => simp [evOpt] at e; subst e; trivial
  | some x =>
    simp only [evOpt] at e
    split at e
    · cases e
    · rename_i u hu; cases e; exact evA_ok G hu hr

/-! ### small ones -/
theorem len_ok {P : Program} {ρ : Ren} {w : World} {t : TypeId} {x r : AV} {X : Value} (e : lenA P t x = some r) (hx : relS ρ x X) (a : TypeId) : ∃ z, (Builtin.len_ #[t] a #[X]).run P w = .ok z w ∧ den ρ r = some z := by
  unfold lenA at e
  split at e
  · rename_i el hu; cases e
    have := relS_den hx (by simp); simp [den] at this; subst this
    exact ⟨_, by simp [Builtin.len_, run_underlying' hu]; rfl, by simp [den, goInt]⟩
  · rename_i el wd b off n c hu; cases e
    obtain ⟨L, _, _, _, _, _, rfl⟩ := den_xs (relS_den hx (by simp))
    exact ⟨_, by simp [Builtin.len_, run_underlying' hu]; rfl, by simp [den, goInt]⟩
  · rename_i el wd b off n c hu; cases e
    obtain ⟨L, _, _, ⟨_, _, rfl, _, rfl⟩ | ⟨_, _, _, rfl⟩⟩ := den_ss (relS_den hx (by simp))
    · exact ⟨_, by simp [Builtin.len_, run_underlying' hu]; rfl, by simp [den, goInt]⟩
    · exact ⟨_, by simp [Builtin.len_, run_underlying' hu]; rfl, by simp [den, goInt]⟩
  · rename_i n el hu; cases e
    exact ⟨_, by simp [Builtin.len_, run_underlying' hu]; rfl, by simp [den, goInt]⟩
  · cases e

theorem cap_ok {P : Program} {ρ : Ren} {w : World} {t : TypeId} {x r : AV} {X : Value} (e : capA P t x = some r) (hx : relS ρ x X) (a : TypeId) : ∃ z, (Builtin.cap_ #[t] a #[X]).run P w = .ok z w ∧ den ρ r = some z := by
  unfold capA at e
  split at e
  · rename_i el hu; cases e
    have := relS_den hx (by simp); simp [den] at this; subst this
    exact ⟨_, by simp [Builtin.cap_, run_underlying' hu]; rfl, by simp [den, goInt]⟩
  · rename_i el wd b off n c hu; cases e
    obtain ⟨L, _, _, _, _, _, rfl⟩ := den_xs (relS_den hx (by simp))
    exact ⟨_, by simp [Builtin.cap_, run_underlying' hu]; rfl, by simp [den, goInt, capOr]⟩
  · rename_i el wd b off n c hu; cases e
    obtain ⟨L, _, _, ⟨_, _, _, h0, rfl⟩ | ⟨_, _, _, rfl⟩⟩ := den_ss (relS_den hx (by simp))
    · simp [capOr] at h0; subst h0
      exact ⟨_, by simp [Builtin.cap_, run_underlying' hu]; rfl, by simp [den, goInt]⟩
    · exact ⟨_, by simp [Builtin.cap_, run_underlying' hu]; rfl, by simp [den, goInt, capOr]⟩
  · cases e

theorem fold_ok {P : Program} {ρ : Ren} {w : World} {f : AV → AV → Option AV} {g : Value → Value → Sem Value} (hfg : ∀ x y z X Y, f x y = some z → relS ρ x X → relS ρ y Y → ∃ Z, (g X Y).run P w = .ok Z w ∧ relS ρ z Z) :
    ∀ (l : List AV) (xs : List Value) (x r : AV) (X : Value), foldA f x l = some r → RelL ρ l xs → relS ρ x X → ∃ Z, (xs.foldlM g X).run P w = .ok Z w ∧ relS ρ r Z
  | [], xs, x, r, X, e, hl, hx => by
    simp only [foldA] at e; cases e
    have : xs = [] := by have := hl.1; simpa using this.symm
    subst this
    exact ⟨X, by simp, hx⟩
  | y :: l, xs, x, r, X, e, hl, hx => by
    simp only [foldA] at e
    split at e
    · rename_i z hz
      obtain ⟨Y, hY, hry⟩ := hl.2 0 y (by simp)
      match xs, hY with
      | Y' :: xs', hY =>
        simp at hY; subst hY
        obtain ⟨Z, hZ, hrz⟩ := hfg x y z X Y' hz hx hry
        obtain ⟨Z', hZ', hr'⟩ := fold_ok hfg l xs' z r Z e ⟨by simpa using hl.1, fun k v hv => by
          obtain ⟨u, hu, hr⟩ := hl.2 (k + 1) v (by simpa using hv)
          exact ⟨u, by simpa using hu, hr⟩⟩ hrz
        exact ⟨Z', by simp [List.foldlM_cons, hZ, hZ'], hr'⟩
    · cases e

theorem min2_ok {P : Program} {ρ : Ren} {w : World} (x y z : AV) (X Y : Value) (e : min2A x y = some z) (hx : relS ρ x X) (hy : relS ρ y Y) : ∃ Z, (Builtin.min2 X Y).run P w = .ok Z w ∧ relS ρ z Z := by
  unfold min2A at e
  split at e
  · rename_i k c a k' d b h1 h2
    cases e
    obtain ⟨d1, t1⟩ := asI_den (ρ := ρ) h1
    obtain ⟨d2, t2⟩ := asI_den (ρ := ρ) h2
    have := relS_den hx t1; rw [d1] at this; cases this
    have := relS_den hy t2; rw [d2] at this; cases this
    exact ⟨_, by simp [Builtin.min2], .inr mkI_den⟩
  · cases e

theorem max2_ok {P : Program} {ρ : Ren} {w : World} (x y z : AV) (X Y : Value) (e : max2A x y = some z) (hx : relS ρ x X) (hy : relS ρ y Y) : ∃ Z, (Builtin.max2 X Y).run P w = .ok Z w ∧ relS ρ z Z := by
  unfold max2A at e
  split at e
  · rename_i k c a k' d b h1 h2
    cases e
    obtain ⟨d1, t1⟩ := asI_den (ρ := ρ) h1
    obtain ⟨d2, t2⟩ := asI_den (ρ := ρ) h2
    have := relS_den hx t1; rw [d1] at this; cases this
    have := relS_den hy t2; rw [d2] at this; cases this
    exact ⟨_, by simp [Builtin.max2], .inr mkI_den⟩
  · cases e

/-! ### the operation -/
/-- What an operation does, said of the machine's. -/
def OpRuns (P : Program) (ρ : Ren) (w : World) (h h' : Hp) (v : AV) (s : Sem Next) : Prop :=
  ∃ ρ' w', ((∃ x, s.run P w = .ok (.value x) w' ∧ relS ρ' v x) ∨ (s.run P w = .ok .skip w' ∧ v = .tup [])) ∧ Step P ρ h w ρ' h' w'

theorem opRuns_val {P : Program} {ρ : Ren} {w : World} {h h' : Hp} {v : AV} {s : Sem Value} {x : Value} (hs : s.run P w = .ok x w) (hd : relS ρ v x) (hr : HeapRep P ρ h.heap w) (q : h'.heap = h.heap) : OpRuns P ρ w h h' v (do pure (.value (← s))) :=
  ⟨ρ, w, .inl ⟨x, by simp [hs], hd⟩, .refl hr q⟩

theorem opRuns_step {P : Program} {ρ ρ' : Ren} {w w' : World} {h h' : Hp} {v : AV} {s : Sem Value} {x : Value} (hs : s.run P w = .ok x w') (hd : relS ρ' v x) (st : Step P ρ h w ρ' h' w') : OpRuns P ρ w h h' v (do pure (.value (← s))) :=
  ⟨ρ', w', .inl ⟨x, by simp [hs], hd⟩, st⟩

theorem opRuns_skip {P : Program} {ρ ρ' : Ren} {w w' : World} {h h' : Hp} {s : Sem Unit} (hs : s.run P w = .ok () w') (st : Step P ρ h w ρ' h' w') : OpRuns P ρ w h h' (.tup []) (do s; pure .skip) :=
  ⟨ρ', w', .inr ⟨by simp [hs], rfl⟩, st⟩

theorem val_eq {h h' : Hp} {o : Option AV} {v : AV} (e : val h o = some (v, h')) : o = some v ∧ h' = h := by
  cases o with
  | none => simp [val] at e
  | some x => simp [val] at e; exact ⟨by rw [e.1], e.2.symm⟩

theorem skp_eq {h' : Hp} {o : Option Hp} {v : AV} (e : skp o = some (v, h')) : o = some h' ∧ v = .tup [] := by
  cases o with
  | none => simp [skp] at e
  | some x => simp [skp] at e; exact ⟨by rw [e.2], e.1.symm⟩

theorem builtin_ok {P : Program} {ρ : Ren} {w : World} {b : Builtin} {ts : List TypeId} {args : List AV} {h h' : Hp} {v : AV} (e : builtinA P b ts args h = some (v, h')) :
    Mono h h' ∧ ((∀ p ∈ h'.ob, p) → Fresh ρ h.nxt h.hi → HeapRep P ρ h.heap w → ∀ xs : List Value, RelL ρ args xs → ∀ type consts, OpRuns P ρ w h h' v (builtin b ts.toArray type consts xs.toArray)) := by
  have rel1 : ∀ {x : AV} {xs : List Value}, RelL ρ [x] xs → ∃ X, xs = [X] ∧ relS ρ x X := by
    intro x xs hl
    match xs, hl.1 with
    | [X], _ => obtain ⟨y, hy, h⟩ := hl.2 0 x rfl; simp at hy; subst hy; exact ⟨_, rfl, h⟩
  have rel2 : ∀ {x y : AV} {xs : List Value}, RelL ρ [x, y] xs → ∃ X Y, xs = [X, Y] ∧ relS ρ x X ∧ relS ρ y Y := by
    intro x y xs hl
    match xs, hl.1 with
    | [X, Y], _ =>
      obtain ⟨u, hu, h⟩ := hl.2 0 x rfl; simp at hu; subst hu
      obtain ⟨u', hu', h'⟩ := hl.2 1 y rfl; simp at hu'; subst hu'
      exact ⟨_, _, rfl, h, h'⟩
  have relc : ∀ {x : AV} {r : List AV} {xs : List Value}, RelL ρ (x :: r) xs → ∃ X R, xs = X :: R ∧ relS ρ x X ∧ RelL ρ r R := by
    intro x r xs hl
    match xs, hl.1 with
    | X :: R, h1 =>
      obtain ⟨u, hu, h⟩ := hl.2 0 x rfl; simp at hu; subst hu
      exact ⟨_, _, rfl, h, ⟨by simpa using h1, fun k v hv => by
        obtain ⟨u, hu, hr⟩ := hl.2 (k + 1) v (by simpa using hv)
        exact ⟨u, by simpa using hu, hr⟩⟩⟩
  unfold builtinA at e
  split at e
  · obtain ⟨m, o⟩ := appendE_ok (ρ := ρ) (w := w) e
    refine ⟨m, fun ho hf hr xs hl type consts => ?_⟩
    obtain ⟨X, Y, rfl, hX, hY⟩ := rel2 hl
    obtain ⟨ρ', w', z, r1, r2, r3⟩ := o ho hf hr X Y hX hY type
    exact opRuns_step (s := Builtin.append_ _ type #[X, Y]) r1 (.inr r2) r3
  · split at e
    · rename_i t x _ u hu
      cases e
      refine ⟨.refl _, fun ho hf hr xs hl type consts => ?_⟩
      obtain ⟨X, rfl, hX⟩ := rel1 hl
      obtain ⟨z, hz, hd⟩ := len_ok (w := w) hu hX type
      exact opRuns_val (s := Builtin.len_ _ type #[X]) hz (.inr hd) hr rfl
    · cases e
  · split at e
    · rename_i t x _ u hu
      cases e
      refine ⟨.refl _, fun ho hf hr xs hl type consts => ?_⟩
      obtain ⟨X, rfl, hX⟩ := rel1 hl
      obtain ⟨z, hz, hd⟩ := cap_ok (w := w) hu hX type
      exact opRuns_val (s := Builtin.cap_ _ type #[X]) hz (.inr hd) hr rfl
    · cases e
  · split at e
    · rename_i x r _ u hu
      cases e
      refine ⟨.refl _, fun ho hf hr xs hl type consts => ?_⟩
      obtain ⟨X, R, rfl, hX, hR⟩ := relc hl
      obtain ⟨z, hz, hd⟩ := fold_ok (P := P) (w := w) (fun x y z X Y e hx hy => min2_ok x y z X Y e hx hy) r R x _ X hu hR hX
      exact opRuns_val (s := Builtin.min_ _ type (X :: R).toArray) (by simpa [Builtin.min_] using hz) hd hr rfl
    · cases e
  · split at e
    · rename_i x r _ u hu
      cases e
      refine ⟨.refl _, fun ho hf hr xs hl type consts => ?_⟩
      obtain ⟨X, R, rfl, hX, hR⟩ := relc hl
      obtain ⟨z, hz, hd⟩ := fold_ok (P := P) (w := w) (fun x y z X Y e hx hy => max2_ok x y z X Y e hx hy) r R x _ X hu hR hX
      exact opRuns_val (s := Builtin.max_ _ type (X :: R).toArray) (by simpa [Builtin.max_] using hz) hd hr rfl
    · cases e
  · split at e
    · rename_i t r m k _ h1 hd
      cases e
      obtain ⟨mo, o⟩ := delete_ok (ρ := ρ) (w := w) hd
      refine ⟨mo, fun ho hf hr xs hl type consts => ?_⟩
      obtain ⟨X, Y, rfl, hX, hY⟩ := rel2 hl
      obtain ⟨w', r1, r2⟩ := o hr r type X Y hX hY
      exact opRuns_step (s := Builtin.delete_ _ type #[X, Y]) r1 (.inr (by simp [den, denL])) r2
    · cases e
  · cases e

theorem op1_ok {P : Program} {ρ : Ren} {w : World} {tmps : List AV} {o : Oper} {h h' : Hp} {v : AV} (e : op1 P tmps o.op h = some (v, h')) :
    Mono h h' ∧ ((∀ p ∈ h'.ob, p) → Fresh ρ h.nxt h.hi → HeapRep P ρ h.heap w → GOk ρ → ∀ a : Act, RelL ρ tmps a.tmps.toList → OpRuns P ρ w h h' v (execOp a.eval o)) := by
  obtain ⟨dst, op, type, pos, after, guard⟩ := o
  simp only at e
  unfold op1 at e
  split at e
  -- move, assign
  · have e0 := val_eq e; clear e; obtain ⟨e, rfl⟩ := e0
    exact ⟨.refl _, fun ho hf hr G a hl => ⟨ρ, w, .inl ⟨_, by simp [execOp], evA_ok G e hl⟩, .refl hr rfl⟩⟩
  · have e0 := val_eq e; clear e; obtain ⟨e, rfl⟩ := e0
    exact ⟨.refl _, fun ho hf hr G a hl => ⟨ρ, w, .inl ⟨_, by simp [execOp], evA_ok G e hl⟩, .refl hr rfl⟩⟩
  -- pick
  · split at e
    · rename_i c x y _ _ _ vc vx vy hc hx hy
      split at e
      · rename_i h1 hd
        cases e
        obtain ⟨q, o⟩ := dec_qt hd
        refine ⟨q.mono, fun ho hf hr G a hl => ⟨ρ, w, .inl ⟨_, ?_, evA_ok G hx hl⟩, .refl hr q.heap⟩⟩
        have h2 := evA_ok G hc hl
        have : a.eval c = .bool true := by
          rcases o ho with rfl | rfl <;> (have := relS_den h2 (by simp); simp [den] at this; exact this.symm)
        simp [execOp, this, asBool]
      · rename_i h1 hd
        cases e
        obtain ⟨q, o⟩ := dec_qt hd
        refine ⟨q.mono, fun ho hf hr G a hl => ⟨ρ, w, .inl ⟨_, ?_, evA_ok G hy hl⟩, .refl hr q.heap⟩⟩
        have h2 := evA_ok G hc hl
        have : a.eval c = .bool false := by
          rcases o ho with rfl | rfl <;> (have := relS_den h2 (by simp); simp [den] at this; exact this.symm)
        simp [execOp, this, asBool]
      · cases e
    · cases e
  -- alloc
  · split at e
    · rename_i el _ z hz
      obtain ⟨m, ht, o⟩ := newA_ok (P := P) (ρ := ρ) (w := w) e
      refine ⟨m, fun ho hf hr G a hl => ?_⟩
      obtain ⟨zv, hzr, rfl⟩ := run_zero (w := w) hz
      obtain ⟨ρ', r1, r2, r3⟩ := o hf hr el zv (.inr (ofVal_den ρ zv))
      exact opRuns_step (s := Instr.alloc el true (.tuple #[])) (by simp [Instr.alloc, hzr, r1]) (.inr r2) r3
    · cases e
  -- box
  · split at e
    · rename_i t x _ u hx
      obtain ⟨m, ht, o⟩ := newA_ok (P := P) (ρ := ρ) (w := w) e
      refine ⟨m, fun ho hf hr G a hl => ?_⟩
      obtain ⟨ρ', r1, r2, r3⟩ := o hf hr t _ (evA_ok G hx hl)
      exact opRuns_step (s := Instr.box t _) (by simp [Instr.box, r1]) (.inr r2) r3
    · cases e
  -- build
  · split at e
    · rename_i t ps _ l hp
      have e0 := val_eq e; clear e; obtain ⟨e, rfl⟩ := e0
      refine ⟨.refl _, fun ho hf hr G a hl => ?_⟩
      have hpr := evParts_ok G hl ps.toList l hp
      obtain ⟨x, h1, h2⟩ := build_ok (w := w) (vs := ps.map fun (i, x) => (i, a.eval x)) e (by simpa using hpr)
      exact opRuns_val (s := Instr.build t _) h1 (.inr h2) hr rfl
    · cases e
  -- buildSlice
  · split at e
    · rename_i t n ps _ l hp
      obtain ⟨m, ht, o⟩ := buildSlice_ok (P := P) (ρ := ρ) (w := w) e
      refine ⟨m, fun ho hf hr G a hl => ?_⟩
      have hpr := evParts_ok G hl ps.toList l hp
      obtain ⟨ρ', w', x, h1, h2, h3⟩ := o hf hr (ps.map fun (i, x) => (i, a.eval x)) (by simpa using hpr)
      exact opRuns_step (s := Instr.buildSlice t n _) h1 (.inr h2) h3
    · cases e
  -- load
  · split at e
    · rename_i t x _ u hx
      obtain ⟨q, ht, o⟩ := loadA_ok (P := P) (ρ := ρ) (w := w) e
      refine ⟨q.mono, fun ho hf hr G a hl => ?_⟩
      have h1 := evA_ok G hx hl
      have hu : u ≠ .top := by intro e'; subst e'; simp [loadA] at e
      obtain ⟨y, h2, h3⟩ := o ho hr _ (relS_den h1 hu)
      exact opRuns_val (s := Instr.loadAt t _) h2 (.inr h3) hr q.heap
    · cases e
  -- store
  · split at e
    · rename_i t x y _ _ u v' hx hy
      have e0 := skp_eq e; clear e; obtain ⟨e, rfl⟩ := e0
      obtain ⟨m, o⟩ := storeA_ok (P := P) (ρ := ρ) (w := w) e
      refine ⟨m, fun ho hf hr G a hl => ?_⟩
      obtain ⟨w', h1, h2⟩ := o ho hr _ _ (evA_ok G hx hl) (evA_ok G hy hl)
      exact opRuns_skip (s := Instr.storeAt t _ _) h1 h2
    · cases e
  -- nilCheck
  · split at e
    · rename_i x _ b i j hx
      cases e
      refine ⟨.refl _, fun ho hf hr G a hl => ?_⟩
      have h1 := evA_ok G hx hl
      obtain ⟨L, hL, hnil, h2⟩ := den_ptr (relS_den h1 (by simp))
      exact ⟨ρ, w, .inl ⟨a.eval x, by simp [execOp, h2], h1⟩, .refl hr rfl⟩
    · cases e
  -- binOp
  · split at e
    · rename_i op t x y yt _ _ u v' hx hy
      obtain ⟨q, ht, o⟩ := binE_ok (P := P) (ρ := ρ) (w := w) e
      refine ⟨q.mono, fun ho hf hr G a hl => ?_⟩
      obtain ⟨z, h1, h2⟩ := o ho hr x y _ _ (evA_ok G hx hl) (evA_ok G hy hl)
      exact opRuns_val (s := do eqGuard op t x y (a.eval x) (a.eval y); binOp op t (a.eval x) (a.eval y)) h1 (.inr h2) hr q.heap
    · cases e
  -- unOp
  · split at e
    · rename_i op t x _ u hx
      have e0 := val_eq e; clear e; obtain ⟨e, rfl⟩ := e0
      refine ⟨.refl _, fun ho hf hr G a hl => ?_⟩
      obtain ⟨z, h1, h2⟩ := un_ok (P := P) (w := w) e (evA_ok G hx hl)
      exact opRuns_val (s := Op.unary op _) h1 (.inr h2) hr rfl
    · cases e
  -- convert
  · split at e
    · rename_i src dst' x _ _ u d hx hsrc
      have e0 := val_eq e; clear e; obtain ⟨e, rfl⟩ := e0
      refine ⟨.refl _, fun ho hf hr G a hl => ?_⟩
      obtain ⟨z, h1, h2⟩ := conv_ok (P := P) (w := w) ⟨d, hsrc⟩ e (evA_ok G hx hl)
      exact opRuns_val (s := convert src dst' _) h1 (.inr h2) hr rfl
    · cases e
  -- makeInterface
  · split at e
    · cases e
    · rename_i t x _ _ u d hn hx hu
      split at e
      · rename_i hk
        cases e
        refine ⟨.refl _, fun ho hf hr G a hl => ?_⟩
        have hut : u ≠ .top := by intro e; subst e; simp [AV.known] at hk
        have h1 := relS_den (evA_ok G hx hl) hut
        refine opRuns_val (s := Instr.makeInterface t _) (x := .iface t (a.eval x)) ?_ (.inr (by simp [den, h1])) hr rfl
        simp only [Instr.makeInterface, Sem.run_bind, run_underlying' hu, Result.andThen_ok]
        cases d <;> first | rfl | exact absurd rfl (hn _)
      · cases e
    · cases e
  -- makeFunc
  · split at e
    · rename_i fn first captured _ _ l m hl1 hm1
      split at e
      · rename_i hk1 hk2
        cases e
        refine ⟨.refl _, fun ho hf hr G a hl => ?_⟩
        have h1 := (evAll_ok G hl _ _ hl1).den (allKnown_mem hk1)
        have h2 := (evAll_ok G hl _ _ hm1).den (allKnown_mem hk2)
        refine opRuns_val (s := Instr.makeFunc fn (first.map a.eval) (captured.map a.eval)) (x := .func fn (first.map a.eval) (captured.map a.eval)) (by simp [Instr.makeFunc]) (.inr ?_) hr rfl
        simp only [den, h1, h2]
        congr 1
        congr 1 <;> exact Array.ext' (by simp)
      · cases e
    · cases e
  -- makeMap
  · rename_i t
    obtain ⟨m, ht, o⟩ := makeMap_ok (P := P) (ρ := ρ) (w := w) e
    refine ⟨m, fun ho hf hr G a hl => ?_⟩
    obtain ⟨ρ', w', x, h1, h2, h3⟩ := o hf hr
    exact opRuns_step (s := Instr.makeMap t none) h1 (.inr h2) h3
  -- makeSlice
  · split at e
    · rename_i t x y _ _ u v' hx hy
      obtain ⟨m, ht, o⟩ := makeSliceE_ok (P := P) (ρ := ρ) (w := w) e
      refine ⟨m, fun ho hf hr G a hl => ?_⟩
      obtain ⟨ρ', w', z, h1, h2, h3⟩ := o ho hf hr _ _ (evA_ok G hx hl) (evA_ok G hy hl)
      exact opRuns_step (s := Instr.makeSlice t _ _) h1 (.inr h2) h3
    · cases e
  -- slice
  · split at e
    · rename_i t x lo hi mx _ _ _ _ u lo' hi' mx' hx hlo hhi hmx
      rcases sliceE_cases e with e | ⟨l, r, rfl, rfl, rfl, e2 | e2⟩
      · obtain ⟨q, ht, o⟩ := slice_ok (P := P) (ρ := ρ) (w := w) e
        refine ⟨q.mono, fun ho hf hr G a hl => ?_⟩
        obtain ⟨z, h1, h2⟩ := o ho _ _ _ _ (evA_ok G hx hl) (evOpt_ok G hl hlo) (evOpt_ok G hl hhi) (evOpt_ok G hl hmx)
        exact opRuns_val (s := Instr.sliceAt t _ _ _ _) h1 (.inr h2) hr q.heap
      · obtain ⟨m, o⟩ := sliceTail_ok (P := P) (ρ := ρ) (w := w) e2
        refine ⟨hints_mono' m, fun ho hf hr G a hl => ?_⟩
        have elo := evOpt_ok G hl hlo
        have ehi := evOpt_ok G hl hhi
        have emx := evOpt_ok G hl hmx
        cases lo with
        | none => simp [OptRel] at elo
        | some l0 =>
          cases hi with
          | some _ => simp [OptRel] at ehi
          | none =>
            cases mx with
            | some _ => simp [OptRel] at emx
            | none =>
              obtain ⟨ρ', z, h1, h2, h3⟩ := o ho hf hr _ _ (evA_ok G hx hl) elo
              exact opRuns_step (s := Instr.sliceAt t _ (some _) none none) h1 (.inr h2) h3.of_hints
      · obtain ⟨m, o⟩ := sliceTake_ok (P := P) (ρ := ρ) (w := w) e2
        refine ⟨hints_mono' m, fun ho hf hr G a hl => ?_⟩
        have elo := evOpt_ok G hl hlo
        have ehi := evOpt_ok G hl hhi
        have emx := evOpt_ok G hl hmx
        cases lo with
        | none => simp [OptRel] at elo
        | some l0 =>
          cases hi with
          | some _ => simp [OptRel] at ehi
          | none =>
            cases mx with
            | some _ => simp [OptRel] at emx
            | none =>
              obtain ⟨ρ', z, h1, h2, h3⟩ := o ho hf hr _ _ (evA_ok G hx hl) elo
              exact opRuns_step (s := Instr.sliceAt t _ (some _) none none) h1 (.inr h2) h3.of_hints
    · cases e
  -- fieldAddr
  · split at e
    · rename_i t x f _ u hx
      have e0 := val_eq e; clear e; obtain ⟨e, rfl⟩ := e0
      refine ⟨.refl _, fun ho hf hr G a hl => ?_⟩
      obtain ⟨z, h1, h2⟩ := fieldAddr_ok (P := P) (w := w) e (evA_ok G hx hl)
      exact opRuns_val (s := Instr.fieldAt t _ f) h1 (.inr h2) hr rfl
    · cases e
  -- field
  · split at e
    · rename_i t x f _ u hx
      have e0 := val_eq e; clear e; obtain ⟨e, rfl⟩ := e0
      refine ⟨.refl _, fun ho hf hr G a hl => ?_⟩
      obtain ⟨z, h1, h2⟩ := field_ok (P := P) (w := w) e (evA_ok G hx hl)
      exact opRuns_val (s := Instr.field t _ f) h1 (.inr h2) hr rfl
    · cases e
  -- indexAddr
  · split at e
    · rename_i t x i _ _ u v' hx hi
      obtain ⟨q, ht, o⟩ := indexAddr_ok (P := P) (ρ := ρ) (w := w) e
      refine ⟨q.mono, fun ho hf hr G a hl => ?_⟩
      obtain ⟨z, h1, h2⟩ := o ho _ _ (evA_ok G hx hl) (evA_ok G hi hl)
      exact opRuns_val (s := Instr.indexAt t _ _) h1 (.inr h2) hr q.heap
    · cases e
  -- index
  · split at e
    · rename_i t x i _ _ u v' hx hi
      obtain ⟨q, o⟩ := index_ok (P := P) (ρ := ρ) (w := w) e
      refine ⟨q.mono, fun ho hf hr G a hl => ?_⟩
      obtain ⟨z, h1, h2⟩ := o ho _ _ (evA_ok G hx hl) (evA_ok G hi hl)
      exact opRuns_val (s := Instr.index t _ _) h1 (.inr h2) hr q.heap
    · cases e
  -- lookup
  · split at e
    · rename_i t m k ok _ _ u v' hx hi
      have e0 := val_eq e; clear e; obtain ⟨e, rfl⟩ := e0
      refine ⟨.refl _, fun ho hf hr G a hl => ?_⟩
      obtain ⟨z, h1, h2⟩ := lookup_ok (P := P) (w := w) e hr (evA_ok G hx hl) (evA_ok G hi hl)
      exact opRuns_val (s := Instr.lookup t _ _ ok) h1 (.inr h2) hr rfl
    · cases e
  -- mapUpdate, insert
  · split at e
    · rename_i t m k x _ _ _ u v' x' hm hk hx
      have e0 := skp_eq e; clear e; obtain ⟨e, rfl⟩ := e0
      obtain ⟨mo, o⟩ := update_ok (P := P) (ρ := ρ) (w := w) e
      refine ⟨mo, fun ho hf hr G a hl => ?_⟩
      obtain ⟨w', h1, h2⟩ := o hr _ _ _ (evA_ok G hm hl) (evA_ok G hk hl) (evA_ok G hx hl)
      exact opRuns_skip (s := Instr.mapUpdate t _ _ _) h1 h2
    · cases e
  · split at e
    · rename_i t m k x _ _ _ u v' x' hm hk hx
      have e0 := skp_eq e; clear e; obtain ⟨e, rfl⟩ := e0
      obtain ⟨mo, o⟩ := update_ok (P := P) (ρ := ρ) (w := w) e
      refine ⟨mo, fun ho hf hr G a hl => ?_⟩
      obtain ⟨w', h1, h2⟩ := o hr _ _ _ (evA_ok G hm hl) (evA_ok G hk hl) (evA_ok G hx hl)
      exact opRuns_skip (s := Instr.mapUpdate t _ _ _) h1 h2
    · cases e
  -- mapEntry, entryStore
  · split at e
    · rename_i t m k _ _ u v' hm hk
      obtain ⟨mo, hne, o⟩ := entryA_ok (P := P) (ρ := ρ) (w := w) e
      refine ⟨mo, fun ho hf hr G a hl => ?_⟩
      obtain ⟨ρ', x, w', h1, h2, h3⟩ := o hf hr _ _ (evA_ok G hm hl) (evA_ok G hk hl)
      exact opRuns_step (s := Instr.mapEntry t _ _) h1 (.inr h2) h3
    · cases e
  · split at e
    · rename_i t m s x _ _ _ u v' x' hm hk hx
      have e0 := skp_eq e; clear e; obtain ⟨e, rfl⟩ := e0
      obtain ⟨mo, o⟩ := entryStoreA_ok (P := P) (ρ := ρ) (w := w) e
      refine ⟨mo, fun ho hf hr G a hl => ?_⟩
      obtain ⟨w', h1, h2⟩ := o hr _ _ _ (evA_ok G hm hl) (evA_ok G hk hl) (evA_ok G hx hl)
      exact opRuns_skip (s := Instr.entryStore t _ _ _) h1 h2
    · cases e
  -- typeAssert
  · rename_i x xt t ok
    split at e
    · cases e
    · rename_i t' u d hn hx hu
      have hkey : GOk ρ → ∀ (a : Act), RelL ρ tmps a.tmps.toList → ∃ y, a.eval x = .iface t' y ∧ den ρ u = some y := by
        intro G a hl
        have := relS_den (evA_ok G hx hl) (by simp)
        simp only [den] at this
        cases hd : den ρ u with
        | none => simp [hd] at this
        | some y => simp only [hd] at this; exact ⟨y, (Option.some.inj this).symm, rfl⟩
      have hund : ∀ {α : Type} (f : TypeDesc → α) (g : α), (∀ ms, d = .interface ms → False) := fun _ _ ms h => hn ms h
      split at e
      · rename_i hb
        cases e
        have hb := Nat.eq_of_beq_eq_true hb; subst hb
        refine ⟨.refl _, fun ho hf hr G a hl => ?_⟩
        obtain ⟨y, h1, h2⟩ := hkey G a hl
        refine opRuns_val (s := Instr.typeAssert (a.eval x) xt t' true) (x := .tuple #[y, .bool true]) ?_ (.inr (by simp [den, denL, h2])) hr rfl
        rw [h1]
        simp only [Instr.typeAssert, Sem.run_bind, run_underlying' hu, Result.andThen_ok]
        cases d <;> first | (simp; done) | exact absurd rfl (hn _)
      · rename_i hb
        cases e
        have hb := Nat.eq_of_beq_eq_true hb; subst hb
        refine ⟨.refl _, fun ho hf hr G a hl => ?_⟩
        obtain ⟨y, h1, h2⟩ := hkey G a hl
        refine opRuns_val (s := Instr.typeAssert (a.eval x) xt t' false) (x := y) ?_ (.inr h2) hr rfl
        rw [h1]
        simp only [Instr.typeAssert, Sem.run_bind, run_underlying' hu, Result.andThen_ok]
        cases d <;> first | (simp; done) | exact absurd rfl (hn _)
      · rename_i hb
        have hb : t' ≠ t := by intro h; subst h; simp at hb
        split at e
        · rename_i z hz
          cases e
          refine ⟨.refl _, fun ho hf hr G a hl => ?_⟩
          obtain ⟨y, h1, h2⟩ := hkey G a hl
          obtain ⟨zv, hzr, rfl⟩ := run_zero (w := w) hz
          refine opRuns_val (s := Instr.typeAssert (a.eval x) xt t true) (x := .tuple #[zv, .bool false]) ?_ (.inr (by simp [den, denL, ofVal_den])) hr rfl
          rw [h1]
          simp only [Instr.typeAssert, Sem.run_bind, run_underlying' hu, Result.andThen_ok]
          cases d <;> first | (simp [hb, hzr]; done) | exact absurd rfl (hn _)
        · cases e
      · cases e
    · rename_i d hn hx hu
      split at e
      · rename_i z hz
        cases e
        refine ⟨.refl _, fun ho hf hr G a hl => ?_⟩
        have h1 : a.eval x = .nilIface := by
          have := relS_den (evA_ok G hx hl) (by simp)
          simp [den] at this; exact this.symm
        obtain ⟨zv, hzr, rfl⟩ := run_zero (w := w) hz
        refine opRuns_val (s := Instr.typeAssert (a.eval x) xt t true) (x := .tuple #[zv, .bool false]) ?_ (.inr (by simp [den, denL, ofVal_den])) hr rfl
        rw [h1]
        simp only [Instr.typeAssert, Sem.run_bind, run_underlying' hu, Result.andThen_ok]
        cases d <;> first | (simp [hzr]; done) | exact absurd rfl (hn _)
      · cases e
    · cases e
  -- extract
  · split at e
    · rename_i x i _ l hx
      have e0 := val_eq e; clear e; obtain ⟨e, rfl⟩ := e0
      refine ⟨.refl _, fun ho hf hr G a hl => ?_⟩
      obtain ⟨xs, hxs, h1⟩ := den_tup (relS_den (evA_ok G hx hl) (by simp))
      rw [nth_eq] at e
      obtain ⟨y, hy, hd⟩ := denL_get _ _ hxs i v e
      exact opRuns_val (s := Instr.extract _ i) (x := y) (by simp [h1, Instr.extract, hy]) (.inr hd) hr rfl
    · cases e
  -- a builtin
  · split at e
    · rename_i b args ts _ l hl1
      obtain ⟨m, o⟩ := builtin_ok (ρ := ρ) (w := w) e
      refine ⟨m, fun ho hf hr G a hl => ?_⟩
      exact o ho hf hr (args.map a.eval).toList (by rw [Array.toList_map]; exact evAll_ok G hl _ _ hl1) type _
    · cases e
  · cases e

end Go.Ev

/-
  Code, regions, calls: the soundness of the evaluator, last part.
-/
set_option linter.unusedSimpArgs false
set_option linter.unusedVariables false
namespace Go.Ev

/-- What the evaluator asks of the program. -/
structure Good (P : Program) : Prop where
  mixed : P.follows .mixedOrders = true
  names : ∀ (f : Nat) fn, P.funcs[f]? = some fn → fn.body.isSome = true → (fn.name == "runtime.NumGoroutine") = false

def Obs (h : Hp) : Prop := ∀ p ∈ h.ob, p

theorem Obs.of {h h' : Hp} (m : Mono h h') (o : Obs h') : Obs h := fun p hp => o p (m.ob p hp)

def exOf : Ex → Exit
  | .norm => .normal
  | .exit id => .exit id
  | .goto l => .goto l
  | .ret => .ret

/-- What is known when an abstract state stands for the machine's. -/
structure Pre (P : Program) (ρ : Ren) (tmps : List AV) (h : Hp) (a : Act) (w : World) : Prop where
  rel : RelL ρ tmps a.tmps.toList
  defers : a.defers = []
  rep : HeapRep P ρ h.heap w
  fresh : Fresh ρ h.nxt h.hi
  glob : GOk ρ

theorem Pre.next {P : Program} {ρ ρ' : Ren} {tmps tmps' : List AV} {h h' : Hp} {a a' : Act} {w w' : World} (p : Pre P ρ tmps h a w) (s : Step P ρ h w ρ' h' w') (m : Mono h h') (hr : RelL ρ' tmps' a'.tmps.toList) (hd : a'.defers = []) : Pre P ρ' tmps' h' a' w' :=
  ⟨hr, hd, s.rep, s.fresh m p.fresh, p.glob.mono s.le⟩

def Post (P : Program) (ρ : Ren) (h : Hp) (w : World) (e : Ex) (s' : St) (Q : Exit → Act → World → Prop) : Prop :=
  ∀ ρ' a' w', RelL ρ' s'.tmps a'.tmps.toList → a'.defers = [] → Step P ρ h w ρ' s'.hp w' → Q (exOf e) a' w'

structure ExOk (P : Program) (c : Code) (s : St) (e : Ex) (s' : St) : Prop where
  mono : Mono s.hp s'.hp
  wp : Obs s'.hp → ∀ ρ a w Q, Pre P ρ s.tmps s.hp a w → Post P ρ s.hp w e s' Q → c.wp P Q a w

structure LpOk (P : Program) (n : Nat) (c : Code) (s : St) (e : Ex) (s' : St) : Prop where
  mono : Mono s.hp s'.hp
  wp : Obs s'.hp → ∀ ρ a w Q, Pre P ρ s.tmps s.hp a w → Post P ρ s.hp w e s' Q → Code.rounds P c Q n a w

structure SqOk (P : Program) (all rest : List Oper) (s s' : St) : Prop where
  mono : Mono s.hp s'.hp
  wp : Obs s'.hp → ∀ ρ a w Q, Pre P ρ s.tmps s.hp a w → Post P ρ s.hp w .norm s' Q → wpList P all.toArray Q rest a w

/-- An operation, a call among them. -/
structure OpOk (P : Program) (tmps : List AV) (op : Op) (h : Hp) (v : AV) (h' : Hp) : Prop where
  mono : Mono h h'
  wp : Obs h' → ∀ ρ a w, Pre P ρ tmps h a w → ∀ (o : Oper) Q (next : Act → World → Prop), o.op = op → (∀ ρ' x w', relS ρ' v x → Step P ρ h w ρ' h' w' → next (a.put o.dst x) w') → o.wp P a w next Q

structure CaOk (P : Program) (f : FuncId) (args : List AV) (h : Hp) (v : AV) (h' : Hp) : Prop where
  mono : Mono h h'
  wp : Obs h' → ∀ ρ w, HeapRep P ρ h.heap w → Fresh ρ h.nxt h.hi → GOk ρ → ∀ xs, denL ρ args = some xs → Calls P f xs.toArray w fun e w' => ∃ x ρ', e = .returned x ∧ relS ρ' v x ∧ Step P ρ h w ρ' h' w'

/-- What a loop's obligation says. -/
def LoopHolds (P : Program) (c : Code) (s : St) (e : Ex) (s' : St) : Prop :=
  ∀ ρ a w Q, Pre P ρ s.tmps s.hp a w → Post P ρ s.hp w e s' Q → (Code.loop c).wp P Q a w

/-- An environment whose contracts hold. -/
structure EnvOk (E : Env) : Prop where
  good : Good E.P
  loops : ∀ c s e s', E.lob c s e s' → LoopHolds E.P c s e s'
  spec : ∀ f g, E.spec f = some g → ∀ args h v h', g args h = some (v, h') → CaOk E.P f args h v h'

/-! ### calls -/
theorem bodied_enter {P : Program} (G : Good P) {w : World} {f : FuncId} (h : bodied P f = true) (xs : Array Value) : (callFunc f xs).run P w = .ok (.enter f xs) w := by
  unfold bodied at h
  split at h
  · rename_i fn hf
    split at h
    · rename_i c hc
      have hn := G.names f fn hf (by simp [hc])
      have hn' : ¬ fn.name = "runtime.NumGoroutine" := by simpa using hn
      simp [callFunc, hf, hn', hc]
    · cases h
  · cases h

theorem findM_eq (name : String) : ∀ (l : List Method), findM name l = l.find? (fun m => m.name == name)
  | [] => rfl
  | m :: r => by
    simp only [findM, List.find?_cons]
    split <;> rename_i h <;> simp only [h]
    exact findM_eq name r

theorem method_ok {P : Program} {w : World} {t : TypeId} {name : String} {f : FuncId} (e : methodA P t name = some f) (v : Value) (n : Nat) : (method (n + 1) t v name).run P w = .ok (f, v) w := by
  unfold methodA at e
  split at e
  · rename_i i hi
    split at e
    · rename_i m hm
      rw [findM_eq] at hm
      have hm' : i.methods.find? (fun m => m.name == name) = some m := by rw [← Array.find?_toList]; exact hm
      split at e
      · rename_i f' el hp hf hu
        cases e
        simp [method, typeInfo, hi, hm', hp, follow, hf, receiverAt, run_underlying' hu, Place.get]
      · cases e
      · rename_i f' d hnp hp hf hu
        cases e
        simp only [method, typeInfo, Sem.run_bind, run_program, Result.andThen_ok, hi, Sem.run_pure, hm', hp, follow, hf, receiverAt, run_underlying' hu]
        cases d <;> first | (simp [Place.get]; done) | (exfalso; exact hnp _ rfl)
      · cases e
    · cases e
  · cases e

theorem relL_cons {ρ : Ren} {v : AV} {l : List AV} {x : Value} {xs : List Value} (h : relS ρ v x) (hl : RelL ρ l xs) : RelL ρ (v :: l) (x :: xs) :=
  ⟨by simp [hl.1], fun k u hk => by
    cases k with
    | zero => simp at hk; subst hk; exact ⟨x, rfl, h⟩
    | succ k => simp at hk; obtain ⟨y, hy, hr⟩ := hl.2 k u hk; exact ⟨y, by simpa using hy, hr⟩⟩

theorem relL_append {ρ : Ren} {l m : List AV} {xs ys : List Value} (h : RelL ρ l xs) (h' : RelL ρ m ys) : RelL ρ (l ++ m) (xs ++ ys) := by
  refine ⟨by simp [h.1, h'.1], fun k v hk => ?_⟩
  rw [List.getElem?_append] at hk ⊢
  rw [← h.1]
  split at hk
  · rename_i hlt; rw [if_pos hlt]; exact h.2 k v hk
  · rename_i hlt; rw [if_neg hlt]; exact h'.2 _ v hk

theorem relL_head {ρ : Ren} {v : AV} {l : List AV} {xs : List Value} (h : RelL ρ (v :: l) xs) : ∃ x r, xs = x :: r ∧ relS ρ v x ∧ RelL ρ l r := by
  match xs, h.1 with
  | x :: r, h1 =>
    obtain ⟨u, hu, hr⟩ := h.2 0 v rfl
    simp at hu; subst hu
    exact ⟨_, _, rfl, hr, ⟨by simpa using h1, fun k v hv => by
      obtain ⟨u, hu, hr⟩ := h.2 (k + 1) v (by simpa using hv)
      exact ⟨u, by simpa using hu, hr⟩⟩⟩

theorem den_func {ρ : Ren} {f : Fn} {l m : List AV} {x : Value} (h : den ρ (.func f l m) = some x) : ∃ xs ys, denL ρ l = some xs ∧ denL ρ m = some ys ∧ x = .func f xs.toArray ys.toArray := by
  simp only [den] at h
  cases hl : denL ρ l with
  | none => simp [hl] at h
  | some l' => cases hm : denL ρ m with
    | none => simp [hl, hm] at h
    | some m' => simp only [hl, hm] at h; cases h; exact ⟨l', m', rfl, rfl, rfl⟩

theorem den_iface {ρ : Ren} {t : TypeId} {v : AV} {x : Value} (h : den ρ (.iface t v) = some x) : ∃ y, den ρ v = some y ∧ x = .iface t y := by
  simp only [den] at h
  cases hl : den ρ v with
  | none => simp [hl] at h
  | some l' => simp only [hl] at h; cases h; exact ⟨l', rfl, rfl⟩

theorem target_ok {P : Program} (G : Good P) {ρ : Ren} {w : World} {fn : Fn} {args cap : List AV} {f : FuncId} {args' : List AV} (e : targetA P fn args cap = some (f, args')) (hb : bodied P f = true) {xs cs : List Value} (hx : RelL ρ args xs) (hc : RelL ρ cap cs) :
    ∃ ys, RelL ρ args' ys ∧ (invoke (.fn fn cs.toArray) xs.toArray).run P w = .ok (.enter f ys.toArray) w := by
  have hmeth : ∀ {t v r f' name}, args = .iface t v :: r → methodA P t name = some f' → f = f' → args' = v :: r → ∃ ys y R, RelL ρ args' ys ∧ xs = .iface t y :: R ∧ ys = y :: R ∧ ∀ (n : Nat), (method (n + 1) t y name).run P w = .ok (f, y) w := by
    intro t v r f' name ha hm hf ha'
    subst ha; subst hf; subst ha'
    obtain ⟨x, R, rfl, hr, hR⟩ := relL_head hx
    obtain ⟨y, hy, rfl⟩ := den_iface (relS_den hr (by simp))
    exact ⟨_, y, R, relL_cons (.inr hy) hR, rfl, rfl, fun n => method_ok hm y n⟩
  have hdepth : ∀ {t : TypeId} {y : Value} {name : String}, (∀ (n : Nat), (method (n + 1) t y name).run P w = .ok (f, y) w) → (method (P.types.size + Made.depth) t y name).run P w = .ok (f, y) w := by
    intro t y name h
    have := h (P.types.size + 99)
    exact this
  unfold targetA at e
  split at e
  · cases e
    refine ⟨xs ++ cs, relL_append hx hc, ?_⟩
    have := bodied_enter G (w := w) hb (xs ++ cs).toArray
    simpa [invoke] using this
  · split at e
    · rename_i t v r
      split at e
      · rename_i f' hm
        cases e
        obtain ⟨ys, y, R, h1, rfl, rfl, h4⟩ := hmeth rfl hm rfl rfl
        refine ⟨_, h1, ?_⟩
        have := bodied_enter G (w := w) hb (y :: R).toArray
        simp [invoke, callMethod, hdepth h4]
        simpa using this
      · cases e
    · cases e
  · split at e
    · rename_i ms hu
      split at e
      · rename_i t v r
        split at e
        · rename_i f' hm
          cases e
          obtain ⟨ys, y, R, h1, rfl, rfl, h4⟩ := hmeth rfl hm rfl rfl
          refine ⟨_, h1, ?_⟩
          have := bodied_enter G (w := w) hb (y :: R).toArray
          simp [invoke, run_underlying' hu, callMethod, hdepth h4]
          simpa using this
        · cases e
      · cases e
    · rename_i t name d hnd hu
      split at e
      · rename_i v r
        split at e
        · rename_i f' hm
          cases e
          obtain ⟨x, R, rfl, hr, hR⟩ := relL_head hx
          refine ⟨_, relL_cons hr hR, ?_⟩
          have h4 := hdepth (fun n => method_ok (w := w) hm x n)
          have := bodied_enter G (w := w) hb (x :: R).toArray
          cases d <;> first
            | (exfalso; exact hnd _ rfl)
            | (simp [invoke, run_underlying' hu, callMethod, h4]; simpa using this)
        · cases e
      · cases e
    · cases e
  · cases e

theorem callee_ok {P : Program} (G : Good P) {ρ : Ren} (K : GOk ρ) {w : World} {tmps : List AV} {o : Oper} {f : FuncId} {args : List AV} (e : callee P tmps o.op = some (some (f, args))) {a : Act} (hr : RelL ρ tmps a.tmps.toList) :
    ∃ xs, denL ρ args = some xs ∧ (execOp a.eval o).run P w = .ok (.enter f xs.toArray) w := by
  obtain ⟨dst, op, type, pos, after, guard⟩ := o
  simp only at e
  unfold callee at e
  split at e
  · rename_i fo argso ats
    split at e
    · rename_i fn first captured args0 hf hargs
      split at e
      · rename_i f' args' ht
        split at e
        · rename_i hb hk
          cases e
          obtain ⟨fs, cs, h1, h2, h3⟩ := den_func (relS_den (evA_ok K hf hr) (by simp))
          have h4 := evAll_ok K hr _ _ hargs
          obtain ⟨ys, hy, hrun⟩ := target_ok G (w := w) ht hb (relL_append (denL.rel h1) h4) (denL.rel h2)
          refine ⟨ys, hy.den (allKnown_mem hk), ?_⟩
          simp only [execOp, resolve, h3, Deferred.ofValue]
          have : (fs ++ List.map a.eval argso.toList).toArray = fs.toArray ++ Array.map a.eval argso := Array.ext' (by simp)
          rw [this] at hrun
          exact hrun
        · cases e
      · cases e
    · cases e
  · rename_i r name argso ats
    split at e
    · rename_i t v args0 hf hargs
      split at e
      · rename_i f' hm
        split at e
        · rename_i hb hk
          cases e
          obtain ⟨y, hy, h3⟩ := den_iface (relS_den (evA_ok K hf hr) (by simp))
          have h4 := evAll_ok K hr _ _ hargs
          have hrel := relL_cons (.inr hy) h4
          refine ⟨_, hrel.den (allKnown_mem hk), ?_⟩
          have hme : (method (P.types.size + Made.depth) t y name).run P w = .ok (f, y) w := method_ok hm y (P.types.size + 99)
          have := bodied_enter G (w := w) hb (y :: List.map a.eval argso.toList).toArray
          have hargs' : Array.map a.eval argso = (List.map a.eval argso.toList).toArray := Array.ext' (by simp)
          simp only [execOp, resolve, h3, hargs']
          generalize List.map a.eval argso.toList = l at this ⊢
          simp [invoke, callMethod, hme]
          simpa using this
        · cases e
      · cases e
    · cases e
  · cases e

theorem settle_ok {ops : List Oper} {i : Nat} {v v' : AV} {h h' : Hp} (e : settle ops i v h = some (v', h')) : Qt h h' ∧ (Obs h' → ∀ ρ x, relS ρ v x → relS ρ v' x) := by
  unfold settle at e
  split at e
  · split at e
    · split at e
      · rename_i c h1 hd
        cases e
        obtain ⟨q, o⟩ := dec_qt hd
        refine ⟨q, fun ho ρ x hx => ?_⟩
        have hx := relS_den hx (by simp)
        rcases o ho with h | h
        · cases h
        · cases h; exact .inr (by simpa [den] using hx)
      · cases e
    · cases e; exact ⟨.refl _, fun _ _ _ h => h⟩
  · cases e; exact ⟨.refl _, fun _ _ _ h => h⟩

theorem wanted_ok {ρ : Ren} {all : List Oper} {tmps : List AV} {o : Oper} {b : Bool} (e : wantedA all tmps o = some b) {a : Act} (hr : RelL ρ tmps a.tmps.toList) : Region.wanted o (yielded all.toArray a.tmps) = b := by
  unfold wantedA at e
  unfold Region.wanted
  split at e
  · rename_i hg; cases e; rw [hg]
  · rename_i j want hg
    rw [hg]
    simp only
    have hy : ∀ d, dstOf all j = some d → yielded all.toArray a.tmps j = (match a.tmps[d]? with | some (.bool b) => some b | _ => none) := by
      intro d hd
      unfold dstOf at hd
      rw [nth_eq] at hd
      split at hd
      · rename_i o' ho'
        have h1 : all.toArray[j]? = some o' := by simpa using ho'
        simp only [yielded, h1, Option.bind_some, hd]
        cases a.tmps[d]? with
        | none => rfl
        | some v => cases v <;> rfl
      · cases hd
    split at e
    · rename_i hd
      cases e
      unfold dstOf at hd
      rw [nth_eq] at hd
      have : yielded all.toArray a.tmps j = none := by
        split at hd
        · rename_i o' ho'
          have h1 : all.toArray[j]? = some o' := by simpa using ho'
          simp [yielded, h1, hd]
        · rename_i ho'
          have h1 : all.toArray[j]? = none := by simpa using ho'
          simp [yielded, h1]
      rw [this]; rfl
    · rename_i d hd
      rw [hy d hd]
      rw [nth_eq] at e
      cases ht : tmps[d]? with
      | none =>
        rw [ht] at e
        cases e
        have : a.tmps[d]? = none := by
          have h1 := List.getElem?_eq_none_iff.1 ht
          have := hr.1
          exact Array.getElem?_eq_none (by simp at this; omega)
        rw [this]; rfl
      | some v =>
        rw [ht] at e
        obtain ⟨x, hx, hv⟩ := hr.2 d v ht
        have hx' : a.tmps[d]? = some x := by simpa using hx
        rw [hx']
        cases v <;> simp only at e
        case top => cases e
        case symb => cases e
        case raw => cases e
        case bool c =>
          have := relS_den hv (by simp); simp [den] at this; subst this
          cases e; cases c <;> cases want <;> rfl
        all_goals (
          cases e
          have hd := relS_den hv (by simp)
          have : ∀ b, x ≠ .bool b := by
            intro b hb; subst hb
            first
              | (simp [den] at hd; done)
              | (obtain ⟨L, _, _, h⟩ := den_ptr hd; cases h)
              | (obtain ⟨L, _, _, _, _, _, h⟩ := den_xs hd; cases h)
              | (obtain ⟨L, _, _, ⟨_, _, _, _, h⟩ | ⟨_, _, _, h⟩⟩ := den_ss hd <;> cases h)
              | (obtain ⟨_, _, _, _, h⟩ := den_func hd; cases h)
              | (obtain ⟨_, _, h⟩ := den_iface hd; cases h)
              | (obtain ⟨_, _, h⟩ := den_agg hd; cases h)
              | (obtain ⟨_, _, h⟩ := den_tup hd; cases h)
              | (simp only [den] at hd; split at hd <;> cases hd)
          cases x <;> first | rfl | exact absurd rfl (this _))

theorem relL_put {ρ : Ren} {tmps : List AV} {a : Act} {v : AV} {x : Value} (dst : Option Tmp) (hr : RelL ρ tmps a.tmps.toList) (hv : relS ρ v x) : RelL ρ (putT tmps dst v) (a.put dst x).tmps.toList := by
  cases dst with
  | none => exact hr
  | some d =>
    simp only [putT, setNth_eq, Act.put]
    refine ⟨by simpa using hr.1, fun k u hk => ?_⟩
    rw [Array.toList_setIfInBounds]
    have hlen := hr.1
    rw [List.getElem?_set] at hk ⊢
    split at hk
    · rename_i hdk
      split at hk
      · rename_i hlt
        cases hk
        rw [if_pos hdk, if_pos (by omega)]
        exact ⟨x, rfl, hv⟩
      · cases hk
    · rename_i hdk
      rw [if_neg hdk]
      exact hr.2 k u hk

theorem put_defers (a : Act) (dst : Option Tmp) (x : Value) : (a.put dst x).defers = a.defers := by cases dst <;> rfl

theorem undef_rel (ρ : Ren) : relS ρ (.tup []) undef := .inr (by simp [den, denL, undef])

/-- An operation's step from what its run says. -/
theorem wp_of_run {P : Program} {ρ : Ren} {w : World} {h h' : Hp} {v : AV} {o : Oper} {a : Act} {next : Act → World → Prop} {Q : Exit → Act → World → Prop} (hr : OpRuns P ρ w h h' v (execOp a.eval o))
    (hn : ∀ ρ' x w', relS ρ' v x → Step P ρ h w ρ' h' w' → next (a.put o.dst x) w') : o.wp P a w next Q := by
  obtain ⟨ρ', w', ⟨x, hx, hv⟩ | ⟨hx, rfl⟩, hs⟩ := hr
  · unfold Oper.wp; rw [hx]; exact hn ρ' x w' hv hs
  · unfold Oper.wp; rw [hx]; exact hn ρ' undef w' (undef_rel ρ') hs

theorem step_settle {P : Program} {ρ ρ' : Ren} {h h1 h2 : Hp} {w w' : World} (s : Step P ρ h w ρ' h1 w') (q : Qt h1 h2) (m : Mono h h1) : Step P ρ h w ρ' h2 w' :=
  s.trans (.refl s.rep q.heap) m q.mono

/-- The value of a result. -/
def resVal (tmps : Array Value) : ResultVar → Sem Value
  | .tmp t => pure (tmps.getD t undef)
  | .cell p t => do loadVar t (← asAddr (tmps.getD p undef))

theorem results_ok {P : Program} {ρ : Ren} {w : World} {tmps : List AV} {a : Act} (hr : RelL ρ tmps a.tmps.toList) : ∀ (rs : List ResultVar) (h h' : Hp) (l : List AV), resultsA P tmps rs h = some (l, h') → Qt h h' ∧ (Obs h' → HeapRep P ρ h.heap w →
    ∃ xs, denL ρ l = some xs ∧ (rs.mapM (resVal a.tmps)).run P w = .ok xs w)
  | [], h, h', l, e => by
    simp only [resultsA] at e; cases e
    exact ⟨.refl _, fun _ _ => ⟨[], rfl, by simp⟩⟩
  | .tmp t :: r, h, h', l, e => by
    simp only [resultsA, nth_eq] at e
    split at e
    · rename_i v hv
      split at e
      · rename_i l' h1 hk hl
        cases e
        obtain ⟨q, o⟩ := results_ok hr r h _ l' hl
        refine ⟨q, fun ho hrep => ?_⟩
        obtain ⟨xs, h1, h2⟩ := o ho hrep
        obtain ⟨x, hx, hrel⟩ := hr.2 t v hv
        have hvt : v ≠ .top := by intro e; subst e; simp [AV.known] at hk
        have hx' : a.tmps[t]? = some x := by simpa using hx
        refine ⟨x :: xs, by simp [denL, relS_den hrel hvt, h1], ?_⟩
        simp only [List.mapM_cons, resVal, Sem.run_bind, Sem.run_pure, Result.andThen_ok, h2, Array.getD_eq_getD_getElem?, hx', Option.getD_some]
      · cases e
    · cases e
  | .cell p t :: r, h, h', l, e => by
    simp only [resultsA, nth_eq] at e
    split at e
    · rename_i v hv
      split at e
      · rename_i v1 h1 hld
        split at e
        · rename_i l' h2 hl
          cases e
          obtain ⟨q1, ht, o1⟩ := loadA_ok (P := P) (ρ := ρ) (w := w) hld
          obtain ⟨q, o⟩ := results_ok hr r h1 _ l' hl
          refine ⟨q1.trans q, fun ho hrep => ?_⟩
          have ho1 : ∀ p ∈ h1.ob, p := fun p hp => ho p (q.ob p hp)
          obtain ⟨xs, g1, g2⟩ := o ho (by rw [q1.heap]; exact hrep)
          obtain ⟨x, hx, hrel⟩ := hr.2 p v hv
          have hvt : v ≠ .top := by intro e'; subst e'; simp [loadA] at hld
          obtain ⟨y, h3, h4⟩ := o1 ho1 hrep x (relS_den hrel hvt)
          have hx' : a.tmps[p]? = some x := by simpa using hx
          refine ⟨y :: xs, by simp [denL, h4, g1], ?_⟩
          have hptr : ∃ ad, x = .pointer (some ad) := by
            cases v <;> simp [loadA] at hld
            obtain ⟨L, _, _, h⟩ := den_ptr (relS_den hrel hvt)
            exact ⟨_, h⟩
          obtain ⟨ad, rfl⟩ := hptr
          simp only [Instr.loadAt, Instr.sureAddr, pure_bind] at h3
          simp only [List.mapM_cons, resVal, Sem.run_bind, Array.getD_eq_getD_getElem?, hx', Option.getD_some, asAddr, Sem.run_pure, Result.andThen_ok, h3, g2]
        · cases e
      · cases e
    · cases e

theorem resultsA_qt {P : Program} {tmps : List AV} : ∀ {rs : List ResultVar} {h h' : Hp} {l : List AV}, resultsA P tmps rs h = some (l, h') → Qt h h'
  | [], h, h', l, e => by simp only [resultsA] at e; cases e; exact .refl _
  | .tmp t :: r, h, h', l, e => by
    simp only [resultsA] at e
    split at e
    · split at e
      · rename_i hl; cases e; exact resultsA_qt hl
      · cases e
    · cases e
  | .cell p t :: r, h, h', l, e => by
    simp only [resultsA] at e
    split at e
    · split at e
      · rename_i h1 hld
        split at e
        · rename_i hl; cases e; exact (loadA_ok (P := P) (ρ := fun _ => none) (w := default) hld).1.trans (resultsA_qt hl)
        · cases e
      · cases e
    · cases e

def oneOrAllV : List Value → Value
  | [x] => x
  | l => .tuple l.toArray

theorem results_run {P : Program} {w : World} {fn : Func} {tmps : Array Value} {xs : List Value} (h : (fn.results.toList.mapM (resVal tmps)).run P w = .ok xs w) :
    (results fn tmps).run P w = .ok (oneOrAllV xs) w := by
  have hm : (fn.results.mapM (resVal tmps)).run P w = .ok xs.toArray w := by
    rw [Array.mapM_eq_mapM_toList, Sem.run_map, h]; rfl
  have he : results fn tmps = (do let vs ← fn.results.mapM (resVal tmps); pure (if h : vs.size = 1 then vs[0] else .tuple vs)) := by
    have hf : (fun r => (match r with
        | .tmp t => pure (tmps.getD t undef)
        | .cell a t => do loadVar t (← asAddr (tmps.getD a undef)) : Sem Value)) = resVal tmps := by funext r; cases r <;> rfl
    rw [← hf]
    rfl
  rw [he]
  simp only [Sem.run_bind, hm]
  simp only [Result.andThen_ok, Sem.run_pure]
  rcases xs with _ | ⟨x, _ | ⟨y, r⟩⟩ <;> simp [oneOrAllV]

theorem oneOrAll_den {ρ : Ren} {l : List AV} {xs : List Value} (h : denL ρ l = some xs) : relS ρ (oneOrAll l) (oneOrAllV xs) := by
  have hlen := denL_length _ _ h
  match l, xs, hlen with
  | [], [], _ => exact .inr (by simp [oneOrAll, oneOrAllV, den, denL])
  | [v], [x], _ =>
    obtain ⟨y, hy, hd⟩ := denL_get _ _ h 0 v rfl
    simp at hy; subst hy
    exact .inr hd
  | v :: u :: r, x :: y :: s, _ => exact .inr (by simp only [oneOrAll, oneOrAllV, den, h])

end Go.Ev

/-
  An operation looks at its operands alone.
-/
set_option linter.unusedSimpArgs false
set_option linter.unusedVariables false
namespace Go.Ev
theorem evAll_congr {t1 t2 : List AV} : ∀ {l : List Operand}, (∀ x ∈ l, evA t1 x = evA t2 x) → evAll t1 l = evAll t2 l
  | [], _ => rfl
  | x :: r, H => by
    simp only [evAll]
    rw [H x (by simp), evAll_congr (fun y hy => H y (by simp [hy]))]
theorem evParts_congr {t1 t2 : List AV} : ∀ {l : List (Nat × Operand)}, (∀ p ∈ l, evA t1 p.2 = evA t2 p.2) → evParts t1 l = evParts t2 l
  | [], _ => rfl
  | (i, x) :: r, H => by
    simp only [evParts]
    rw [H (i, x) (by simp), evParts_congr (fun y hy => H y (by simp [hy]))]
theorem evOpt_congr {t1 t2 : List AV} {o : Option Operand} (H : ∀ x ∈ o, evA t1 x = evA t2 x) : evOpt t1 o = evOpt t2 o := by
  cases o with
  | none => rfl
  | some x => simp only [evOpt]; rw [H x rfl]
theorem callee_congr {P : Program} {t1 t2 : List AV} {op : Op} (H : ∀ x ∈ op.operands.toList, evA t1 x = evA t2 x) : callee P t1 op = callee P t2 op := by
  cases op with
  | call c =>
    obtain ⟨ca, args, ats⟩ := c
    cases ca with
    | value f =>
      have h1 : evA t1 f = evA t2 f := H f (by simp [Op.operands, Call.operands])
      have h2 : evAll t1 args.toList = evAll t2 args.toList := evAll_congr (fun x hx => H x (by simp [Op.operands, Call.operands]; right; simpa using hx))
      simp only [callee, h1, h2]
    | invoke r name =>
      have h1 : evA t1 r = evA t2 r := H r (by simp [Op.operands, Call.operands])
      have h2 : evAll t1 args.toList = evAll t2 args.toList := evAll_congr (fun x hx => H x (by simp [Op.operands, Call.operands]; right; simpa using hx))
      simp only [callee, h1, h2]
    | _ => rfl
  | _ => rfl
theorem op1_congr {P : Program} {t1 t2 : List AV} {op : Op} {h : Hp} (H : ∀ x ∈ op.operands.toList, evA t1 x = evA t2 x) : op1 P t1 op h = op1 P t2 op h := by
  cases op with
  | build t ps =>
    have h1 : evParts t1 ps.toList = evParts t2 ps.toList := evParts_congr (fun p hp => H p.2 (by simp [Op.operands]; exact ⟨p.1, by simpa using hp⟩))
    simp only [op1, h1]
  | buildSlice t n ps =>
    have h1 : evParts t1 ps.toList = evParts t2 ps.toList := evParts_congr (fun p hp => H p.2 (by simp [Op.operands]; exact ⟨p.1, by simpa using hp⟩))
    simp only [op1, h1]
  | makeFunc fn first captured =>
    have h1 : evAll t1 first.toList = evAll t2 first.toList := evAll_congr (fun x hx => H x (by simp [Op.operands]; left; simpa using hx))
    have h2 : evAll t1 captured.toList = evAll t2 captured.toList := evAll_congr (fun x hx => H x (by simp [Op.operands]; right; simpa using hx))
    simp only [op1, h1, h2]
  | slice t x lo hi mx =>
    have h0 : evA t1 x = evA t2 x := H x (by simp [Op.operands])
    have h1 : evOpt t1 lo = evOpt t2 lo := evOpt_congr (fun y hy => H y (by cases hy; simp [Op.operands]))
    have h2 : evOpt t1 hi = evOpt t2 hi := evOpt_congr (fun y hy => H y (by cases hy; simp [Op.operands]))
    have h3 : evOpt t1 mx = evOpt t2 mx := evOpt_congr (fun y hy => H y (by cases hy; simp [Op.operands]))
    simp only [op1, h0, h1, h2, h3]
  | call c =>
    obtain ⟨ca, args, ats⟩ := c
    cases ca with
    | builtin b =>
      have h2 : evAll t1 args.toList = evAll t2 args.toList := evAll_congr (fun x hx => H x (by simp [Op.operands, Call.operands]; simpa using hx))
      simp only [op1, h2]
    | _ => rfl
  | makeMap t r => cases r <;> rfl
  | _ => (try rfl) <;> (simp [Op.operands] at H; simp only [op1, H])
theorem tops_get : ∀ (l : List AV) (j : Nat), (tops l)[j]? = (l[j]?).map (fun _ => AV.top)
  | [], j => by simp [tops]
  | _ :: r, 0 => by simp [tops]
  | _ :: r, j + 1 => by simp [tops, tops_get r j]
theorem tops_length : ∀ (l : List AV), (tops l).length = l.length
  | [] => rfl
  | _ :: r => by simp [tops, tops_length r]
theorem mask_length (looks : List Nat) (l : List AV) (k0 : Nat) : (mask looks l k0).length = l.length := by
  unfold mask
  induction looks with
  | nil => exact tops_length l
  | cons k r ih =>
    simp only [maskOn]
    split
    · split
      · rw [setNth_eq, List.length_set]; exact ih
      · exact ih
    · exact ih
theorem mask_get (looks : List Nat) (l : List AV) (k0 j : Nat) : (mask looks l k0)[j]? = (l[j]?).map (fun v => if mem (k0 + j) looks = true then v else .top) := by
  have hlen := fun r => mask_length r l k0
  unfold mask at hlen ⊢
  induction looks with
  | nil => simp [maskOn, tops_get, mem]
  | cons k r ih =>
    have hm : mem (k0 + j) (k :: r) = if k = k0 + j then true else mem (k0 + j) r := by
      simp only [mem]
      by_cases e : k = k0 + j
      · subst e; simp
      · have : Nat.beq k (k0 + j) = false := by rw [← Bool.not_eq_true, Nat.beq_eq]; exact e
        simp [this, e]
    rw [hm]
    simp only [maskOn]
    split
    · rename_i hb
      have hb : k0 ≤ k := Nat.le_of_ble_eq_true hb
      split
      · rename_i v hv
        rw [nth_eq] at hv
        rw [setNth_eq, List.getElem?_set, ih]
        by_cases e : k - k0 = j
        · have e2 : k = k0 + j := by omega
          have hjl : j < l.length := by rw [← e]; exact (List.getElem?_eq_some_iff.1 hv).1
          have hl2 : j < (maskOn l k0 r).length := by rw [hlen r]; exact hjl
          rw [if_pos e, if_pos (by omega), if_pos e2, ← e, hv]
          simp
        · have e2 : k ≠ k0 + j := by omega
          rw [if_neg e, if_neg e2]
      · rename_i hv
        rw [nth_eq] at hv
        rw [ih]
        by_cases e2 : k = k0 + j
        · have : k - k0 = j := by omega
          rw [this] at hv
          rw [hv]; rfl
        · rw [if_neg e2]
    · rename_i hb
      have hb : ¬ k0 ≤ k := fun e => by rw [Nat.ble_eq_true_of_le e] at hb; cases hb
      rw [ih, if_neg (by omega)]


theorem evA_mask (all : List Oper) (o : Oper) (tmps : List AV) (x : Operand) (hx : x ∈ o.op.operands.toList) : evA (mask (looksAt all o) tmps 0) x = evA tmps x := by
  cases x with
  | tmp t =>
    simp only [evA, nth_eq]
    rw [mask_get, Nat.zero_add]
    have hm : mem t (looksAt all o) = true := by
      rw [mem_iff]
      unfold looksAt
      refine List.mem_append_left _ (List.mem_filterMap.2 ⟨.tmp t, hx, rfl⟩)
    simp [hm]
  | _ => rfl
theorem wantedA_mask (all : List Oper) (o : Oper) (tmps : List AV) : wantedA all (mask (looksAt all o) tmps 0) o = wantedA all tmps o := by
  unfold wantedA
  split
  · rfl
  · rename_i j want hg
    split
    · rfl
    · rename_i d hd
      have hm : mem d (looksAt all o) = true := by
        rw [mem_iff]
        unfold looksAt
        refine List.mem_append_right _ ?_
        rw [hg]; simp [hd]
      have e : nth (mask (looksAt all o) tmps 0) d = nth tmps d := by
        rw [nth_eq, nth_eq, mask_get, Nat.zero_add]; simp [hm]
      rw [e]
theorem oper_mask (all : List Oper) (o : Oper) (tmps : List AV) {E : Env} {n : Nat} {h : Hp} : oper E n (mask (looksAt all o) tmps 0) o.op h = oper E n tmps o.op h := by
  have H := evA_mask all o tmps
  cases n with
  | zero => simp only [oper]
  | succ n =>
    simp only [oper]
    rw [callee_congr H, op1_congr H]
end Go.Ev

/-
  A region that draws its order: whatever order comes, it goes as in the text.
-/
set_option linter.unusedSimpArgs false
set_option linter.unusedVariables false
namespace Go.Ev

/-! ### what stands somewhere behind some operations -/
def cur {X C : Type} (init : X → C) (wr : Nat → X → Option C) (S : Nat → Bool) : Nat → X → C
  | 0, x => init x
  | i + 1, x => match S i with
    | true => (match wr i x with
      | some c => c
      | none => cur init wr S i x)
    | false => cur init wr S i x

section
variable {X C : Type} {init : X → C} {wr : Nat → X → Option C} {S : Nat → Bool} {x : X}

theorem cur_above : ∀ (n i : Nat), i ≤ n → (∀ k, i ≤ k → k < n → S k = true → wr k x = none) → cur init wr S n x = cur init wr S i x
  | 0, i, hi, _ => by have : i = 0 := by omega
                      subst this; rfl
  | n + 1, i, hi, h => by
    by_cases he : i = n + 1
    · subst he; rfl
    · have ih := cur_above n i (by omega) (fun k h1 h2 h3 => h k h1 (by omega) h3)
      simp only [cur]
      split
      · rename_i hs; rw [h n (by omega) (by omega) hs]; exact ih
      · exact ih

theorem cur_below : ∀ (i : Nat), (∀ k, k < i → S k = false → wr k x = none) → cur init wr S i x = cur init wr (fun _ => true) i x
  | 0, _ => rfl
  | i + 1, h => by
    have ih := cur_below i (fun k hk => h k (by omega))
    simp only [cur]
    split
    · rename_i hs
      split
      · rfl
      · exact ih
    · rename_i hs; rw [h i (by omega) hs]; exact ih

theorem cur_none (h : ∀ k, S k = false) : ∀ n, cur init wr S n x = init x
  | 0 => rfl
  | n + 1 => by simp only [cur, h n]; exact cur_none h n

theorem cur_congr {S' : Nat → Bool} : ∀ (n : Nat), (∀ k, k < n → S k = S' k) → cur init wr S n x = cur init wr S' n x
  | 0, _ => rfl
  | n + 1, h => by simp only [cur, ← h n (by omega), cur_congr n (fun k hk => h k (by omega))]

theorem cur_add {i : Nat} (S' : Nat → Bool) (hS : ∀ k, S' k = if k = i then true else S k) : ∀ (n : Nat), i < n → (∀ k, i < k → k < n → S k = true → wr i x ≠ none → wr k x = none) →
    cur init wr S' n x = (match wr i x with
      | some c => c
      | none => cur init wr S n x) ∨ S i = true
  | 0, h, _ => by omega
  | n + 1, h, hc => by
    by_cases hsi : S i = true
    · exact .inr hsi
    left
    have hsi : S i = false := by simpa using hsi
    by_cases he : i = n
    · subst he
      have h1 : S' i = true := by rw [hS]; simp
      have h2 : cur init wr S' i x = cur init wr S i x := cur_congr i (fun k hk => by rw [hS]; rw [if_neg (by omega)])
      simp only [cur, h1, hsi, h2]
    · have ih := (cur_add S' hS n (by omega) (fun k h1 h2 h3 => hc k h1 (by omega) h3)).resolve_right (by simp [hsi])
      have h1 : S' n = S n := by rw [hS]; rw [if_neg (by omega)]
      simp only [cur, h1, ih]
      cases hw : wr i x with
      | none => simp only []
      | some c =>
        simp only []
        split
        · rename_i hs
          rw [hc n (by omega) (by omega) hs (by simp [hw])]
        · rfl
end

/-! ### what the evaluator went through -/
def afterT (tmps : List AV) : List DR → List AV
  | [] => tmps
  | d :: r => afterT (putT tmps d.o.dst d.v) r

def afterH (heap : List (Nat × AO)) : List DR → List (Nat × AO)
  | [] => heap
  | d :: r => afterH (mergeW heap d.h.heap d.w) r

theorem afterT_snoc (d : DR) : ∀ (l : List DR) (tmps : List AV), afterT tmps (l ++ [d]) = putT (afterT tmps l) d.o.dst d.v
  | [], _ => rfl
  | x :: l, tmps => afterT_snoc d l _

theorem afterH_snoc (d : DR) : ∀ (l : List DR) (heap : List (Nat × AO)), afterH heap (l ++ [d]) = mergeW (afterH heap l) d.h.heap d.w
  | [], _ => rfl
  | x :: l, heap => afterH_snoc d l _

theorem putT_length (tmps : List AV) (dst : Option Tmp) (v : AV) : (putT tmps dst v).length = tmps.length := by cases dst <;> simp [putT, setNth_eq]

theorem afterT_length : ∀ (l : List DR) (tmps : List AV), (afterT tmps l).length = tmps.length
  | [], _ => rfl
  | d :: l, tmps => by simp only [afterT]; rw [afterT_length l, putT_length]

theorem get_mergeW (old new : List (Nat × AO)) : ∀ (l : List Nat) (n : Nat), get (mergeW old new l) n = if n ∈ l then get new n else get old n
  | [], n => by simp [mergeW]
  | m :: r, n => by
    have ih := get_mergeW old new r n
    simp only [mergeW]
    split
    · rename_i o ho
      rw [get_set, ih]
      by_cases h : n = m
      · subst h; simp [ho]
      · simp [h]
    · rename_i ho
      rw [get_del, ih]
      by_cases h : n = m
      · subst h; simp [ho]
      · simp [h]

/-- What an operation writes: slots. -/
def wrT (D : List DR) (len : Nat) (k t : Nat) : Option (Option AV) := match D[k]? with
  | some d => match d.o.dst with
    | some t' => if t' = t ∧ t < len then some (some d.v) else none
    | none => none
  | none => none

/-- .. blocks. -/
def wrH (D : List DR) (k n : Nat) : Option (Option AO) := match D[k]? with
  | some d => if n ∈ d.w then some (get d.h.heap n) else none
  | none => none

theorem curT_after (D : List DR) (tmps : List AV) : ∀ (j : Nat), j ≤ D.length → ∀ t, (afterT tmps (D.take j))[t]? = cur (fun t => tmps[t]?) (wrT D tmps.length) (fun _ => true) j t
  | 0, _, t => by simp [afterT, cur]
  | j + 1, hj, t => by
    have ih := curT_after D tmps j (by omega) t
    have hd : D[j]? = some D[j] := List.getElem?_eq_getElem (by omega)
    rw [List.take_succ_eq_append_getElem (by omega), afterT_snoc]
    simp only [cur, wrT, hd]
    cases hdst : D[j].o.dst with
    | none => simpa [putT] using ih
    | some t' =>
      simp only [putT, setNth_eq, List.getElem?_set, afterT_length]
      by_cases h1 : t' = t
      · subst h1
        by_cases h2 : t' < tmps.length
        · simp [h2]
        · simp only [h2, if_false, and_false, if_true]
          rw [← ih, List.getElem?_eq_none (by rw [afterT_length]; exact Nat.le_of_not_lt h2)]
      · simp [h1, ih]

theorem curH_after (D : List DR) (heap : List (Nat × AO)) : ∀ (j : Nat), j ≤ D.length → ∀ n, get (afterH heap (D.take j)) n = cur (get heap) (wrH D) (fun _ => true) j n
  | 0, _, n => by simp [afterH, cur]
  | j + 1, hj, n => by
    have ih := curH_after D heap j (by omega) n
    have hd : D[j]? = some D[j] := List.getElem?_eq_getElem (by omega)
    rw [List.take_succ_eq_append_getElem (by omega), afterH_snoc, get_mergeW]
    simp only [cur, wrH, hd]
    by_cases h : n ∈ D[j].w
    · simp [h]
    · simp [h, ih]

/-- What is known of one operation of the region. -/
structure DFact (E : Env) (m : Nat) (all : List Oper) (s : St) (lo step : Nat) (D : List DR) (j : Nat) (d : DR) (tm : List AV) (hp : Hp) : Prop where
  op : all[j]? = some d.o
  looks : d.looks = looksAt all d.o
  htm : tm = mask d.looks (afterT s.tmps (D.take j)) 0
  heap : hp.heap = restrict (afterH s.hp.heap (D.take j)) d.fp
  nxt : hp.nxt = lo + j * step
  hi : hp.hi = lo + j * step + step
  wr : hp.wr = []
  wanted : wantedA all tm d.o = some d.wanted
  no : d.wanted = false → d.v = .tup [] ∧ d.w = [] ∧ d.fp = []
  yes : d.wanted = true → ∃ m' v0 h0 i, m' < m ∧ oper E m' tm d.o.op hp = some (v0, h0) ∧ settle all i v0 h0 = some (d.v, d.h) ∧ d.h.nxt ≤ lo + j * step + step ∧ d.w = addAll (newNames (lo + j * step) (lo + j * step + step) d.h.heap) d.h.wr

structure DFacts (E : Env) (m : Nat) (all : List Oper) (s : St) (lo step : Nat) (D : List DR) (s' : St) : Prop where
  len : D.length = all.length
  fact : ∀ (j : Nat) d, D[j]? = some d → ∃ tm hp, DFact E m all s lo step D j d tm hp
  tmps : s'.tmps = afterT s.tmps D
  heap : s'.hp.heap = afterH s.hp.heap D
  nxt : s'.hp.nxt = lo + all.length * step
  lim : lo + all.length * step ≤ s.hp.hi
  hi : s'.hp.hi = s.hp.hi
  ob : ∀ p ∈ s.hp.ob, p ∈ s'.hp.ob
  obd : ∀ d ∈ D, d.wanted = true → ∀ p ∈ d.h.ob, p ∈ s'.hp.ob
  wr : ∀ n ∈ s.hp.wr, n ∈ s'.hp.wr
  wrd : ∀ d ∈ D, d.wanted = true → ∀ n ∈ d.h.wr, n ∈ s'.hp.wr

theorem mem_addAll {n : Nat} : ∀ {l r : List Nat}, n ∈ addAll l r ↔ n ∈ l ∨ n ∈ r
  | [], r => by simp [addAll]
  | m :: l, r => by simp only [addAll]; rw [mem_add, mem_addAll]; simp [or_assoc]

theorem DFact.more {E : Env} {m m' : Nat} {all : List Oper} {s : St} {lo step : Nat} {D : List DR} {j : Nat} {d : DR} {tm : List AV} {hp : Hp} (f : DFact E m all s lo step D j d tm hp) (h : m ≤ m') : DFact E m' all s lo step D j d tm hp :=
  { f with yes := fun hw => let ⟨k, v0, h0, i, a, b⟩ := f.yes hw; ⟨k, v0, h0, i, Nat.lt_of_lt_of_le a h, b⟩ }

/-- The evaluator's run, from some operation on: what came ahead is 'pre'. -/
structure DRun (E : Env) (n : Nat) (all : List Oper) (s0 : St) (lo0 step : Nat) (pre : List DR) (rest : List Oper) (s : St) (D : List DR) (s' : St) : Prop where
  len : D.length = rest.length
  fact : ∀ (j : Nat) d, D[j]? = some d → ∃ tm hp, DFact E n all s0 lo0 step (pre ++ D) (pre.length + j) d tm hp
  tmps : s'.tmps = afterT s.tmps D
  heap : s'.hp.heap = afterH s.hp.heap D
  nxt : s'.hp.nxt = lo0 + (pre.length + rest.length) * step
  lim : lo0 + (pre.length + rest.length) * step ≤ s.hp.hi
  hi : s'.hp.hi = s.hp.hi
  ob : ∀ p ∈ s.hp.ob, p ∈ s'.hp.ob
  obd : ∀ d ∈ D, d.wanted = true → ∀ p ∈ d.h.ob, p ∈ s'.hp.ob
  wr : ∀ n ∈ s.hp.wr, n ∈ s'.hp.wr
  wrd : ∀ d ∈ D, d.wanted = true → ∀ n ∈ d.h.wr, n ∈ s'.hp.wr

theorem draw_run (E : Env) (all : List Oper) (hs : List (Nat × List Hint)) (step lo0 : Nat) (s0 : St) : ∀ (n : Nat) (rest : List Oper) (i : Nat) (s : St) (D : List DR) (s' : St) (pre : List DR) (opre : List Oper),
    drawOps E n all i rest (lo0 + pre.length * step) step hs s = some (D, s') → all = opre ++ rest → opre.length = pre.length → s.tmps = afterT s0.tmps pre → s.hp.heap = afterH s0.hp.heap pre →
    DRun E n all s0 lo0 step pre rest s D s'
  | 0, rest, i, s, D, s', pre, opre, e, _, _, _, _ => by simp [drawOps] at e
  | n + 1, rest, i, s, D, s', pre, opre, e, hall, hol, ht, hh => by
    unfold drawOps at e
    split at e
    · split at e
      · rename_i hle
        cases e
        have hle := Nat.le_of_ble_eq_true hle
        exact ⟨rfl, by simp, rfl, rfl, by simp, by simpa using hle, rfl, fun _ h => h, by simp, fun _ h => h, by simp⟩
      · cases e
    · rename_i o rest
      have hlo : lo0 + pre.length * step + step = lo0 + (pre.length + 1) * step := by rw [Nat.add_mul]; omega
      have hop : all[pre.length]? = some o := by rw [hall, ← hol]; simp
      have hcount : pre.length + 1 + rest.length = pre.length + (o :: rest).length := by simp; omega
      -- the facts behind the first operation
      have tail : ∀ (d : DR) (ds : List DR) (s1 s2 : St), (∃ tm hp, DFact E (n + 1) all s0 lo0 step (pre ++ d :: ds) pre.length d tm hp) → DRun E n all s0 lo0 step (pre ++ [d]) rest s1 ds s2 → s1.tmps = putT s.tmps d.o.dst d.v → s1.hp.heap = mergeW s.hp.heap d.h.heap d.w → s1.hp.hi = s.hp.hi →
          (∀ p ∈ s.hp.ob, p ∈ s1.hp.ob) → (d.wanted = true → ∀ p ∈ d.h.ob, p ∈ s1.hp.ob) → (∀ p ∈ s.hp.wr, p ∈ s1.hp.wr) → (d.wanted = true → ∀ p ∈ d.h.wr, p ∈ s1.hp.wr) → DRun E (n + 1) all s0 lo0 step pre (o :: rest) s (d :: ds) s2 := by
        intro d ds s1 s2 hf r h1 h2 h3 h4 h5 h6 h7
        have rn := r.nxt
        have rl := r.lim
        simp only [List.length_append, List.length_cons, List.length_nil, Nat.zero_add] at rn rl
        rw [hcount] at rn rl
        refine ⟨by simp [r.len], ?_, by rw [r.tmps, afterT, h1], by rw [r.heap, afterH, h2], rn, by rw [← h3]; exact rl, r.hi.trans h3, fun p hp => r.ob p (h4 p hp), ?_, fun p hp => r.wr p (h6 p hp), ?_⟩
        · intro j d' hj
          cases j with
          | zero => simp at hj; subst hj; exact hf
          | succ j =>
            simp at hj
            obtain ⟨tm, hp, f⟩ := r.fact j d' hj
            have e1 : pre ++ [d] ++ ds = pre ++ d :: ds := by simp
            have e2 : (pre ++ [d]).length + j = pre.length + (j + 1) := by simp; omega
            rw [e1, e2] at f
            exact ⟨tm, hp, f.more (by omega)⟩
        · intro d' hd' hw' p hp
          rcases List.mem_cons.1 hd' with rfl | hd'
          · exact r.ob p (h5 hw' p hp)
          · exact r.obd d' hd' hw' p hp
        · intro d' hd' hw' p hp
          rcases List.mem_cons.1 hd' with rfl | hd'
          · exact r.wr p (h7 hw' p hp)
          · exact r.wrd d' hd' hw' p hp
      split at e
      · rename_i hw
        rw [← wantedA_mask all o s.tmps] at hw
        split at e
        · rename_i v0 h0 ho
          rw [← oper_mask all o s.tmps] at ho
          split at e
          · rename_i v h1 hst
            split at e
            · rename_i hle
              split at e
              · rename_i ds s1 hrec
                cases e
                have hle := Nat.le_of_ble_eq_true hle
                have ih := draw_run E all hs step lo0 s0 n rest (i + 1) _ ds s' (pre ++ [⟨o, true, drawFp E.P s.hp.heap s.tmps all o, v, h1, addAll (newNames (lo0 + pre.length * step) (lo0 + pre.length * step + step) h1.heap) h1.wr, looksAt all o⟩]) (opre ++ [o])
                  (by rw [List.length_append, List.length_singleton, ← hlo]; exact hrec) (by rw [hall]; simp) (by simp [hol]) (by rw [afterT_snoc, ← ht]) (by rw [afterH_snoc, ← hh])
                refine tail _ ds _ s' ⟨_, ⟨restrict s.hp.heap (drawFp E.P s.hp.heap s.tmps all o), lo0 + pre.length * step, lo0 + pre.length * step + step, childHints hs i, [], [], s.hp.auto⟩, ⟨hop, rfl, rfl, ?_, rfl, rfl, rfl, ?_, by simp, fun _ => ⟨n, v0, h0, i, by omega, ?_, hst, hle, rfl⟩⟩⟩ ih rfl rfl rfl (fun p hp => List.mem_append_right _ hp) (fun _ p hp => List.mem_append_left _ hp) (fun p hp => mem_addAll.2 (.inr hp)) (fun _ p hp => mem_addAll.2 (.inl hp))
                · simp [← hh]
                · simp only [List.take_left']
                  simp [← ht]; exact hw
                · simp [← ht]; exact ho
              · cases e
            · cases e
          · cases e
        · cases e
      · rename_i hw
        rw [← wantedA_mask all o s.tmps] at hw
        split at e
        · rename_i ds s1 hrec
          cases e
          rw [hlo] at hrec
          have ih := draw_run E all hs step lo0 s0 n rest (i + 1) _ ds s' (pre ++ [⟨o, false, [], .tup [], s.hp, [], looksAt all o⟩]) (opre ++ [o])
            (by rw [List.length_append]; exact hrec) (by rw [hall]; simp) (by simp [hol]) (by rw [afterT_snoc, ← ht]) (by rw [afterH_snoc, ← hh]; rfl)
          refine tail _ ds _ s' ⟨_, ⟨[], lo0 + pre.length * step, lo0 + pre.length * step + step, [], [], [], true⟩, ⟨hop, rfl, rfl, rfl, rfl, rfl, rfl, ?_, fun _ => ⟨rfl, rfl, rfl⟩, by simp⟩⟩ ih rfl rfl rfl (fun p hp => hp) (by simp) (fun p hp => hp) (by simp)
          simp [← ht]; exact hw
        · cases e
      · cases e

/-! ### what stands ahead -/
theorem ancOf_edge {ancs : List Nat} {i : Nat} : ∀ {es : List Edge} {x : Nat}, ancOf ancs i es = some x → ∀ e ∈ es, Region.binds .any e = true → e.on < ancs.length
  | [], x, _, e, he, _ => by simp at he
  | e0 :: r, x, h, e, he, hb => by
    simp only [ancOf] at h
    split at h
    · cases h
    rename_i s hs
    rcases List.mem_cons.1 he with rfl | he
    · split at h
      · rename_i hf; rw [hb] at hf; cases hf
      · split at h
        · rename_i y hy; rw [nth_eq] at hy; exact (List.getElem?_eq_some_iff.1 hy).1
        · cases h
    · exact ancOf_edge hs e he hb

theorem ancOf_bit {ancs : List Nat} {i : Nat} : ∀ {es : List Edge} {x : Nat}, ancOf ancs i es = some x → ∀ k, Nat.testBit x k = true → ∃ e ∈ es, Region.binds .any e = true ∧ (k = e.on ∨ ∃ y, ancs[e.on]? = some y ∧ Nat.testBit y k = true)
  | [], x, h, k, hk => by simp only [ancOf] at h; cases h; simp at hk
  | e0 :: r, x, h, k, hk => by
    simp only [ancOf] at h
    split at h
    · cases h
    rename_i s hs
    split at h
    · cases h
      obtain ⟨e, he, r⟩ := ancOf_bit hs k hk
      exact ⟨e, List.mem_cons_of_mem _ he, r⟩
    · rename_i hb
      split at h
      · rename_i y hy
        rw [nth_eq] at hy
        cases h
        have h1 : (s ||| (2 ^ e0.on ||| y)).testBit k = true := hk
        rw [Nat.testBit_or, Nat.testBit_or] at h1
        simp only [Bool.or_eq_true] at h1
        rcases h1 with h1 | h1 | h1
        · obtain ⟨e, he, r⟩ := ancOf_bit hs k h1
          exact ⟨e, List.mem_cons_of_mem _ he, r⟩
        · rw [Nat.testBit_two_pow] at h1
          exact ⟨e0, List.mem_cons_self .., hb, .inl (by have := of_decide_eq_true h1; exact this.symm)⟩
        · exact ⟨e0, List.mem_cons_self .., hb, .inr ⟨y, hy, h1⟩⟩
      · cases h

theorem ancAll_spec : ∀ (ops : List Oper) (acc ancs : List Nat), ancAll acc ops = some ancs → ancs.length = acc.length + ops.length ∧ ancs.take acc.length = acc ∧
    ∀ (j : Nat) o, ops[j]? = some o → ∃ x, ancs[acc.length + j]? = some x ∧ ancOf (ancs.take (acc.length + j)) (acc.length + j) o.after.toList = some x
  | [], acc, ancs, h => by simp only [ancAll] at h; cases h; simp
  | o :: r, acc, ancs, h => by
    simp only [ancAll] at h
    split at h
    · rename_i x hx
      obtain ⟨h1, h2, h3⟩ := ancAll_spec r (acc ++ [x]) ancs h
      simp only [List.length_append, List.length_cons, List.length_nil, Nat.zero_add] at h1 h2 h3
      have h4 : ancs.take acc.length = acc := by
        have := congrArg (List.take acc.length) h2
        rw [List.take_take, Nat.min_eq_left (by omega)] at this
        rw [this]; simp
      refine ⟨by simp; omega, h4, fun j o' hj => ?_⟩
      cases j with
      | zero =>
        simp at hj; subst hj
        refine ⟨x, ?_, by rw [Nat.add_zero, h4]; exact hx⟩
        have : (ancs.take (acc.length + 1))[acc.length]? = some x := by rw [h2]; simp
        rw [List.getElem?_take, if_pos (by omega)] at this
        exact this
      | succ j =>
        simp at hj
        obtain ⟨y, a, b⟩ := h3 j o' hj
        rw [show acc.length + 1 + j = acc.length + (j + 1) by omega] at a b
        exact ⟨y, a, b⟩
    · cases h

/-- Closed under what stands ahead. -/
theorem anc_closed {all : List Oper} {ancs : List Nat} (h : ancAll [] all = some ancs) {S : Nat → Bool} (hS : ∀ (i : Nat) o, all[i]? = some o → S i = true → ∀ e ∈ o.after.toList, Region.binds .any e = true → S e.on = true) :
    ∀ (n i : Nat) o x, i < n → all[i]? = some o → ancs[i]? = some x → (∀ e ∈ o.after.toList, Region.binds .any e = true → S e.on = true) → ∀ k, Nat.testBit x k = true → S k = true ∧ k < i
  | 0, i, _, _, hi, _, _, _, _, _ => by omega
  | n + 1, i, o, x, hi, ho, hx, he, k, hk => by
    obtain ⟨h1, h2, h3⟩ := ancAll_spec all [] ancs h
    simp only [List.length_nil, Nat.zero_add] at h1 h3
    obtain ⟨x', hx', ha⟩ := h3 i o ho
    rw [hx] at hx'; cases hx'
    obtain ⟨e, hee, hb, hcase⟩ := ancOf_bit ha k hk
    have hlt := ancOf_edge ha e hee hb
    simp only [List.length_take] at hlt
    rcases hcase with rfl | ⟨y, hy, hky⟩
    · exact ⟨he e hee hb, by omega⟩
    · rw [List.getElem?_take] at hy
      split at hy
      · rename_i hei
        have hlen : e.on < all.length := by have := (List.getElem?_eq_some_iff.1 ho).1; omega
        have := anc_closed h hS n e.on all[e.on] y (by omega) (List.getElem?_eq_getElem hlen) hy (fun e' he' hb' => hS e.on _ (List.getElem?_eq_getElem hlen) (he e hee hb) e' he' hb') k hky
        exact ⟨this.1, by omega⟩
      · cases hy

theorem orderly_spec {anc : Nat} {r : Rec} : ∀ {l : List DR} {k0 : Nat}, orderly anc r l k0 = true → ∀ (k : Nat) d, l[k]? = some d → clash d.rc r = true → Nat.testBit anc (k0 + k) = true
  | [], k0, _, k, d, hd, _ => by simp at hd
  | x :: l, k0, h, k, d, hd, hc => by
    simp only [orderly] at h
    cases k with
    | zero =>
      simp at hd; subst hd
      split at h
      · rename_i hf; rw [hc] at hf; cases hf
      · split at h
        · rename_i ht; simpa using ht
        · cases h
    | succ k =>
      simp at hd
      have hrest : orderly anc r l (k0 + 1) = true := by
        split at h
        · exact h
        · split at h
          · exact h
          · cases h
      have := orderly_spec hrest k d hd hc
      rw [show k0 + (k + 1) = k0 + 1 + k by omega]; exact this

theorem orderlyAll_spec {all : List DR} : ∀ {ancs : List Nat} {ds : List DR} {i : Nat}, orderlyAll all ancs ds i = true → ancs.length = ds.length ∧ ∀ (j : Nat) a d, ancs[j]? = some a → ds[j]? = some d → ∀ (k : Nat) d', k < i + j → all[k]? = some d' → clash d'.rc d.rc = true → Nat.testBit a k = true
  | [], [], i, _ => by simp
  | [], _ :: _, i, h => by simp [orderlyAll] at h
  | _ :: _, [], i, h => by simp [orderlyAll] at h
  | a :: ancs, d :: ds, i, h => by
    simp only [orderlyAll] at h
    split at h
    · rename_i pre hp
      obtain ⟨hlen, rfl⟩ := takeN_eq _ _ _ hp
      split at h
      · rename_i ho
        obtain ⟨h1, h2⟩ := orderlyAll_spec h
        refine ⟨by simp [h1], fun j a' d' ha hd k d'' hk hk' hc => ?_⟩
        cases j with
        | zero =>
          simp at ha hd; subst ha; subst hd
          have := orderly_spec ho k d'' (by rw [List.getElem?_take, if_pos (by omega)]; exact hk') hc
          simpa using this
        | succ j =>
          simp at ha hd
          exact h2 j a' d' ha hd k d'' (by omega) hk' hc
      · cases h
    · cases h

theorem anyMem_false {a b : List Nat} : anyMem a b = false → ∀ n ∈ a, n ∉ b := by
  induction a with
  | nil => intro _ n hn; simp at hn
  | cons m r ih =>
    intro h n hn
    simp only [anyMem] at h
    split at h
    · cases h
    · rename_i hm
      rcases List.mem_cons.1 hn with rfl | hn
      · intro hb; rw [(mem_iff n b).2 hb] at hm; cases hm
      · exact ih h n hn

/-- Two operations that may change places. -/
theorem clash_false {a b : Rec} (h : clash a b = false) : (∀ t, a.dst = some t → t ∉ b.looks ∧ b.dst ≠ some t) ∧ (∀ t, b.dst = some t → t ∉ a.looks) ∧ (∀ n ∈ a.wr, n ∉ b.fp ∧ n ∉ b.wr) ∧ ∀ n ∈ b.wr, n ∉ a.fp := by
  unfold clash at h
  split at h
  · rename_i h1 h2 h3 h4 h5 h6
    refine ⟨fun t ht => ⟨fun hm => ?_, fun hb => ?_⟩, fun t ht hm => ?_, fun n hn => ⟨anyMem_false h4 n hn, anyMem_false h5 n hn⟩, anyMem_false h6⟩
    · rw [ht] at h1; simp only [optMem] at h1; rw [(mem_iff t _).2 hm] at h1; cases h1
    · rw [ht, hb] at h2; simp [optBeq] at h2
    · rw [ht] at h3; simp only [optMem] at h3; rw [(mem_iff t _).2 hm] at h3; cases h3
  · cases h

/-! ### the region -/
def HeapF (P : Program) (ρ : Ren) (H : Nat → Option AO) (w : World) : Prop :=
  (∀ n o, H n = some o → ∃ l, ρ n = some l ∧ ObjRep P ρ w l o) ∧
  ∀ n m o o' l l', H n = some o → H m = some o' → n ≠ m → (o.ro && o'.ro) = false → ρ n = some l → ρ m = some l' → l.cap ≠ 0 → l'.cap ≠ 0 → l.blk ≠ l'.blk

theorem get_restrict (heap : List (Nat × AO)) : ∀ (l : List Nat) (n : Nat) (o : AO), get (restrict heap l) n = some o → n ∈ l ∧ get heap n = some o
  | [], n, o, h => by simp [restrict, get] at h
  | m :: r, n, o, h => by
    simp only [restrict] at h
    split at h
    · rename_i o' ho'
      simp only [get] at h
      split at h
      · rename_i hb
        have := Nat.eq_of_beq_eq_true hb
        subst this
        cases h
        exact ⟨List.mem_cons_self .., ho'⟩
      · obtain ⟨a, b⟩ := get_restrict heap r n o h
        exact ⟨List.mem_cons_of_mem _ a, b⟩
    · obtain ⟨a, b⟩ := get_restrict heap r n o h
      exact ⟨List.mem_cons_of_mem _ a, b⟩

structure DInv (P : Program) (D : List DR) (s s' : St) (lo step N : Nat) (ρ0 : Ren) (w0 : World) (S : Nat → Bool) (ρ : Ren) (a : Act) (w : World) : Prop where
  size : a.tmps.size = s.tmps.length
  rel : ∀ t v, cur (fun t => s.tmps[t]?) (wrT D s.tmps.length) S N t = some v → ∃ x, a.tmps[t]? = some x ∧ relS ρ v x
  defers : a.defers = []
  rep : HeapF P ρ (cur (get s.hp.heap) (wrH D) S N) w
  le : Le ρ0 ρ
  new : ∀ n l, ρ0 n = none → ρ n = some l → lo ≤ n ∧ n < lo + N * step
  fresh : ∀ k, k < N → S k = false → Fresh ρ (lo + k * step) (lo + k * step + step)
  fr : Fr w0 w (Owned ρ0 s.hp.heap s'.hp.wr)
  own : ∀ n o l, cur (get s.hp.heap) (wrH D) S N n = some o → ρ n = some l → l.cap ≠ 0 → l.blk < w0.heap.size → ∃ m o' l', get s.hp.heap m = some o' ∧ o'.ro = o.ro ∧ ρ0 m = some l' ∧ l'.cap ≠ 0 ∧ l'.blk = l.blk ∧ (m = n ∨ m ∈ s'.hp.wr)

/-- One operation comes up. -/
theorem draw_step {E : Env} {m : Nat} {all : List Oper} {s s' : St} {lo step : Nat} {D : List DR} (F : DFacts E m all s lo step D s') (hoper : ∀ m' tm op hp v h', m' < m → oper E m' tm op hp = some (v, h') → OpOk E.P tm op hp v h')
    (hob : Obs s'.hp) {ancs : List Nat} (hord : orderlyAll D ancs D 0 = true) {ρ0 : Ren} (G0 : GOk ρ0) {w0 : World} {S S' : Nat → Bool} {ρ : Ren} {a : Act} {w : World} (I : DInv E.P D s s' lo step all.length ρ0 w0 S ρ a w)
    {i : Nat} {o : Oper} (ho : all[i]? = some o) (hSi : S i = false) (hS' : ∀ k, S' k = if k = i then true else S k)
    (hup : ∀ x, ancs[i]? = some x → ∀ k, Nat.testBit x k = true → S k = true) (hdown : ∀ (k : Nat) x, S k = true → ancs[k]? = some x → Nat.testBit x i = true → S i = true)
    {Q : Exit → Act → World → Prop} {K : Act → World → Prop} (hK : ∀ ρ' a' w', DInv E.P D s s' lo step all.length ρ0 w0 S' ρ' a' w' → K a' w') : wpOp E.P all.toArray Q i K a w := by
  have hiN : i < all.length := (List.getElem?_eq_some_iff.1 ho).1
  obtain ⟨d, hDi⟩ : ∃ d, D[i]? = some d := ⟨D[i]'(by rw [F.len]; exact hiN), List.getElem?_eq_getElem _⟩
  obtain ⟨tm, hp, f⟩ := F.fact i d hDi
  have hdo : d.o = o := by have := f.op; rw [ho] at this; exact (Option.some.inj this).symm
  obtain ⟨hal, hor⟩ := orderlyAll_spec hord
  have hDlen := F.len
  have hanc : ∀ (k : Nat), k < all.length → ∃ x, ancs[k]? = some x := fun k hk => ⟨ancs[k]'(by omega), List.getElem?_eq_getElem (by omega)⟩
  have c1 : ∀ (k : Nat) d', k < i → S k = false → D[k]? = some d' → clash d'.rc d.rc = false := by
    intro k d' hk hs hd'
    cases hc : clash d'.rc d.rc with
    | false => rfl
    | true =>
      obtain ⟨x, hx⟩ := hanc i hiN
      have := hor i x d hx hDi k d' (by omega) hd' hc
      rw [hup x hx k this] at hs; cases hs
  have c2 : ∀ (k : Nat) d', i < k → S k = true → D[k]? = some d' → clash d.rc d'.rc = false := by
    intro k d' hk hs hd'
    cases hc : clash d.rc d'.rc with
    | false => rfl
    | true =>
      have hkN : k < all.length := by have := (List.getElem?_eq_some_iff.1 hd').1; omega
      obtain ⟨x, hx⟩ := hanc k hkN
      have := hor k x d' hx hd' i d (by omega) hDi hc
      rw [hdown k x hs hx this] at hSi; cases hSi
  have hrc : d.rc = ⟨d.fp, d.w, d.o.dst, d.looks⟩ := rfl
  -- what it reads is what it read in the text's order
  have readT : ∀ t, t ∈ d.looks → cur (fun t => s.tmps[t]?) (wrT D s.tmps.length) S all.length t = (afterT s.tmps (D.take i))[t]? := by
    intro t ht
    rw [curT_after D s.tmps i (by omega) t, cur_above all.length i (by omega), cur_below i]
    · intro k hk hs
      unfold wrT
      cases hd' : D[k]? with
      | none => rfl
      | some d' =>
        have := (clash_false (c1 k d' hk hs hd')).1
        simp only
        cases hdst : d'.o.dst with
        | none => rfl
        | some t' =>
          simp only
          rw [if_neg]
          rintro ⟨rfl, _⟩
          exact (this t' hdst).1 ht
    · intro k hik hk hs
      have hne : k ≠ i := fun e => by subst e; rw [hs] at hSi; cases hSi
      unfold wrT
      cases hd' : D[k]? with
      | none => rfl
      | some d' =>
        have := (clash_false (c2 k d' (by omega) hs hd')).2.1
        simp only
        cases hdst : d'.o.dst with
        | none => rfl
        | some t' =>
          simp only
          rw [if_neg]
          rintro ⟨rfl, _⟩
          exact this t' hdst ht
  have readH : ∀ n, n ∈ d.fp → cur (get s.hp.heap) (wrH D) S all.length n = get (afterH s.hp.heap (D.take i)) n := by
    intro n hn
    rw [curH_after D s.hp.heap i (by omega) n, cur_above all.length i (by omega), cur_below i]
    · intro k hk hs
      unfold wrH
      cases hd' : D[k]? with
      | none => rfl
      | some d' =>
        have := (clash_false (c1 k d' hk hs hd')).2.2.1
        simp only
        rw [if_neg]
        intro hw
        exact (this n hw).1 hn
    · intro k hik hk hs
      have hne : k ≠ i := fun e => by subst e; rw [hs] at hSi; cases hSi
      unfold wrH
      cases hd' : D[k]? with
      | none => rfl
      | some d' =>
        have := (clash_false (c2 k d' (by omega) hs hd')).2.2.2
        simp only
        rw [if_neg]
        intro hw
        exact this n hw hn
  -- and what it writes stays
  have addT : ∀ t, cur (fun t => s.tmps[t]?) (wrT D s.tmps.length) S' all.length t = (match wrT D s.tmps.length i t with
      | some c => c
      | none => cur (fun t => s.tmps[t]?) (wrT D s.tmps.length) S all.length t) := by
    intro t
    have hcur := (cur_add (init := fun t => s.tmps[t]?) (wr := wrT D s.tmps.length) (x := t) S' hS' all.length hiN ?_).resolve_right (by simp [hSi])
    · rw [hcur]
      cases wrT D s.tmps.length i t <;> rfl
    intro k hik hk hs hw
    unfold wrT at hw ⊢
    rw [hDi] at hw
    cases hd' : D[k]? with
    | none => rfl
    | some d' =>
      have := (clash_false (c2 k d' hik hs hd')).1
      simp only at hw ⊢
      cases hdst : d.o.dst with
      | none => rw [hdst] at hw; simp at hw
      | some t' =>
        rw [hdst] at hw
        simp only at hw
        have htt : t' = t := by
          by_cases hc : t' = t ∧ t < s.tmps.length
          · exact hc.1
          · rw [if_neg hc] at hw; exact absurd rfl hw
        subst htt
        cases hdst' : d'.o.dst with
        | none => rfl
        | some t'' =>
          simp only
          rw [if_neg]
          rintro ⟨rfl, _⟩
          exact (this _ hdst).2 hdst'
  have addH : ∀ n, cur (get s.hp.heap) (wrH D) S' all.length n = (if n ∈ d.w then get d.h.heap n else cur (get s.hp.heap) (wrH D) S all.length n) := by
    intro n
    have := (cur_add (init := get s.hp.heap) (wr := wrH D) (x := n) S' hS' all.length hiN ?_).resolve_right (by simp [hSi])
    · rw [this]
      unfold wrH
      rw [hDi]
      simp only
      by_cases hn : n ∈ d.w
      · simp [hn]
      · simp [hn]
    · intro k hik hk hs hw
      unfold wrH at hw ⊢
      rw [hDi] at hw
      cases hd' : D[k]? with
      | none => rfl
      | some d' =>
        have := (clash_false (c2 k d' hik hs hd')).2.2.1
        simp only at hw ⊢
        rw [if_neg]
        intro hk'
        by_cases hn : n ∈ d.w
        · exact (this n hn).2 hk'
        · rw [if_neg hn] at hw; exact hw rfl
  have htm : RelL ρ tm a.tmps.toList := by
    rw [f.htm]
    refine ⟨by rw [mask_length, afterT_length]; simp [I.size], fun k v hk => ?_⟩
    rw [mask_get, Nat.zero_add] at hk
    cases hv : (afterT s.tmps (D.take i))[k]? with
    | none => simp [hv] at hk
    | some u =>
      simp [hv] at hk
      have hlt : k < a.tmps.size := by
        have := (List.getElem?_eq_some_iff.1 hv).1
        rw [afterT_length] at this
        rw [I.size]; exact this
      by_cases hm : mem k d.looks = true
      · rw [if_pos hm] at hk; subst hk
        obtain ⟨x, hx, hr⟩ := I.rel k _ (by rw [readT k ((mem_iff k _).1 hm)]; exact hv)
        exact ⟨x, by simpa using hx, hr⟩
      · rw [if_neg hm] at hk; subst hk
        exact ⟨a.tmps[k], by simp [hlt], .inl rfl⟩
  have hopi : all.toArray[i]? = some o := by simpa using ho
  unfold wpOp
  rw [hopi]
  simp only
  have hwant := wanted_ok f.wanted htm
  rw [hdo] at hwant
  rw [hwant]
  have putrel : ∀ {ρ' : Ren} {x : Value}, Le ρ ρ' → relS ρ' d.v x → (a.put o.dst x).tmps.size = s.tmps.length ∧ ∀ t v, cur (fun t => s.tmps[t]?) (wrT D s.tmps.length) S' all.length t = some v → ∃ y, (a.put o.dst x).tmps[t]? = some y ∧ relS ρ' v y := by
    intro ρ' x hle hx
    refine ⟨by cases o.dst <;> simp [Act.put, I.size], fun t v hv => ?_⟩
    rw [addT t] at hv
    unfold wrT at hv
    rw [hDi] at hv
    simp only [hdo] at hv
    cases hdst : o.dst with
    | none =>
      rw [hdst] at hv
      obtain ⟨y, hy, hr⟩ := I.rel t v hv
      exact ⟨y, hy, hr.mono hle⟩
    | some t' =>
      rw [hdst] at hv
      simp only at hv
      by_cases hc : t' = t ∧ t < s.tmps.length
      · rw [if_pos hc] at hv
        obtain ⟨rfl, hlt⟩ := hc
        simp only at hv; cases hv
        exact ⟨x, by simp [Act.put, I.size, hlt], hx⟩
      · rw [if_neg hc] at hv
        obtain ⟨y, hy, hr⟩ := I.rel t v hv
        have hne : t' ≠ t := by
          intro e; subst e
          have := (Array.getElem?_eq_some_iff.1 hy).1
          rw [I.size] at this
          exact hc ⟨rfl, this⟩
        exact ⟨y, by simp [Act.put, Array.getElem?_setIfInBounds_ne hne, hy], hr.mono hle⟩
  have freshS : ∀ k, k < all.length → S' k = false → S k = false ∧ k ≠ i := by
    intro k hk hs
    rw [hS'] at hs
    by_cases hki : k = i
    · subst hki; simp at hs
    · rw [if_neg hki] at hs; exact ⟨hs, hki⟩
  cases hwt : d.wanted with
  | false =>
    rw [if_neg (by simp)]
    obtain ⟨hv, hw0, _⟩ := f.no hwt
    obtain ⟨p1, p2⟩ := putrel (ρ' := ρ) (x := undef) (Le.refl ρ) (by rw [hv]; exact undef_rel ρ)
    have hsame : ∀ n, cur (get s.hp.heap) (wrH D) S' all.length n = cur (get s.hp.heap) (wrH D) S all.length n := fun n => by rw [addH n, hw0]; simp
    exact hK ρ _ w ⟨p1, p2, by rw [put_defers]; exact I.defers, ⟨fun n o h => I.rep.1 n o (by rw [← hsame]; exact h), fun n m o o' l l' h h' => I.rep.2 n m o o' l l' (by rw [← hsame]; exact h) (by rw [← hsame]; exact h')⟩, I.le, I.new, fun k hk hs => I.fresh k hk (freshS k hk hs).1, I.fr, fun n o l h => I.own n o l (by rw [← hsame]; exact h)⟩
  | true =>
    rw [if_pos rfl]
    left
    obtain ⟨m', v0, h0, idx, hm', hopr, hset, hnx, hw⟩ := f.yes hwt
    have hOp := hoper m' tm d.o.op hp v0 h0 hm' hopr
    obtain ⟨qs, hsv⟩ := settle_ok hset
    have hobd : Obs d.h := fun p hp => hob p (F.obd d (List.mem_of_getElem? hDi) hwt p hp)
    have hob0 : Obs h0 := hobd.of qs.mono
    have hrep0 : HeapRep E.P ρ hp.heap w := by
      have key : ∀ n o, get hp.heap n = some o → n ∈ d.fp ∧ cur (get s.hp.heap) (wrH D) S all.length n = some o := by
        intro n o hn
        rw [f.heap] at hn
        obtain ⟨h1, h2⟩ := get_restrict _ _ n o hn
        exact ⟨h1, by rw [readH n h1]; exact h2⟩
      exact ⟨fun n o hn => I.rep.1 n o (key n o hn).2, fun n m o o' l l' hn hm => I.rep.2 n m o o' l l' (key n o hn).2 (key m o' hm).2⟩
    have hkey0 : ∀ n o, get hp.heap n = some o → cur (get s.hp.heap) (wrH D) S all.length n = some o := by
      intro n o hn
      rw [f.heap] at hn
      obtain ⟨h1, h2⟩ := get_restrict _ _ n o hn
      rw [readH n h1]; exact h2
    have hpre : Pre E.P ρ tm hp a w := ⟨htm, I.defers, hrep0, (by rw [f.nxt, f.hi]; exact I.fresh i hiN hSi), G0.mono I.le⟩
    refine hOp.wp hob0 ρ a w hpre o Q K (by rw [hdo]) (fun ρ' x w' hx hst => ?_)
    have hwrw : ∀ n ∈ h0.wr, n ∈ d.w := fun n hn => by rw [hw]; exact mem_addAll.2 (.inr (by rw [qs.wr]; exact hn))
    obtain ⟨p1, p2⟩ := putrel hst.le (hsv hobd ρ' x hx)
    have hdheap : d.h.heap = h0.heap := qs.heap
    -- blocks of what is not written stay
    have hstay : ∀ n o l, n ∉ d.w → cur (get s.hp.heap) (wrH D) S all.length n = some o → ρ n = some l → l.cap ≠ 0 → w'.heap[l.blk]? = w.heap[l.blk]? := by
      intro n o l hn hc hl hcap
      obtain ⟨l', hl', hob'⟩ := I.rep.1 n o hc
      rw [hl] at hl'; cases hl'
      refine hst.fr.same l.blk (hob'.lt hcap) ?_
      rintro ⟨m1, hm1, o1, l1, g1, gro, g2, g3, g4⟩
      have hne : m1 ≠ n := fun e => hn (by rw [← e]; exact hwrw m1 hm1)
      exact I.rep.2 m1 n o1 o l1 l (hkey0 m1 o1 g1) hc hne (by rw [gro]; rfl) g2 hl g3 hcap g4
    have hrange : ∀ n l, ρ n = none → ρ' n = some l → lo + i * step ≤ n ∧ n < lo + i * step + step := by
      intro n l h1 h2
      have := hst.new n l h1 h2
      rw [f.nxt] at this
      have := qs.nxt
      omega
    refine hK ρ' _ w' ⟨p1, p2, by rw [put_defers]; exact I.defers, ⟨fun n o1 hn => ?_, fun n k o1 o2 l1 l2 hn hk hne hro h1 h2 q1 q2 => ?_⟩, I.le.trans hst.le, fun n l h1 h2 => ?_, fun k hk hs => ?_, ?_, fun n o1 l h1 h2 h3 h4 => ?_⟩
    · rw [addH n] at hn
      by_cases hnw : n ∈ d.w
      · rw [if_pos hnw, hdheap] at hn
        exact hst.rep.1 n o1 hn
      · rw [if_neg hnw] at hn
        obtain ⟨l, hl, hobj⟩ := I.rep.1 n o1 hn
        exact ⟨l, hst.le n l hl, hobj.keep hst.le (fun hc => hstay n o1 l hnw hn hl hc)⟩
    ·
      have mixed : ∀ (n k : Nat) (o1 o2 : AO) (l1 l2 : Loc), n ∈ d.w → k ∉ d.w → get h0.heap n = some o1 → cur (get s.hp.heap) (wrH D) S all.length k = some o2 → (o1.ro && o2.ro) = false → ρ' n = some l1 → ρ' k = some l2 → l1.cap ≠ 0 → l2.cap ≠ 0 → l1.blk ≠ l2.blk := by
        intro n k o1 o2 l1 l2 hnw hkw hn hk hro h1 h2 q1 q2 heq
        obtain ⟨l2', hl2, hobj⟩ := I.rep.1 k o2 hk
        have := hst.le k l2' hl2
        rw [h2] at this; cases this
        have hlt := hobj.lt q2
        obtain ⟨m1, o', l', g1, gro, g2, g3, g4, g5⟩ := hst.own n o1 l1 hn h1 q1 (by rw [heq]; exact hlt)
        have hmw : m1 ∈ d.w := by
          rcases g5 with rfl | g5
          · exact hnw
          · exact hwrw m1 g5
        have hne' : m1 ≠ k := fun e => hkw (by rw [← e]; exact hmw)
        exact I.rep.2 m1 k o' o2 l' l2 (hkey0 m1 o' g1) hk hne' (by rw [gro]; exact hro) g2 hl2 g3 q2 (g4.trans heq)
      rw [addH n] at hn
      rw [addH k] at hk
      by_cases hnw : n ∈ d.w
      · rw [if_pos hnw, hdheap] at hn
        by_cases hkw : k ∈ d.w
        · rw [if_pos hkw, hdheap] at hk
          exact hst.rep.2 n k o1 o2 l1 l2 hn hk hne hro h1 h2 q1 q2
        · rw [if_neg hkw] at hk
          exact mixed n k o1 o2 l1 l2 hnw hkw hn hk hro h1 h2 q1 q2
      · rw [if_neg hnw] at hn
        by_cases hkw : k ∈ d.w
        · rw [if_pos hkw, hdheap] at hk
          exact (mixed k n o2 o1 l2 l1 hkw hnw hk hn (by rw [Bool.and_comm]; exact hro) h2 h1 q2 q1).symm
        · rw [if_neg hkw] at hk
          obtain ⟨l1', e1, _⟩ := I.rep.1 n o1 hn
          obtain ⟨l2', e2, _⟩ := I.rep.1 k o2 hk
          have r1 := hst.le n l1' e1
          have r2 := hst.le k l2' e2
          rw [h1] at r1; rw [h2] at r2; cases r1; cases r2
          exact I.rep.2 n k o1 o2 _ _ hn hk hne hro e1 e2 q1 q2
    · cases hc : ρ n with
      | some l0 =>
        have := hst.le n l0 hc
        exact I.new n l0 h1 hc
      | none =>
        have := hrange n l hc h2
        have hmul : (i + 1) * step ≤ all.length * step := Nat.mul_le_mul_right step (by omega)
        rw [Nat.succ_mul] at hmul
        omega
    · obtain ⟨hs1, hki⟩ := freshS k hk hs
      intro n g1 g2
      cases hc : ρ' n with
      | none => rfl
      | some l =>
        have := hrange n l (I.fresh k hk hs1 n g1 g2) hc
        rcases Nat.lt_or_gt_of_ne hki with hlt | hgt
        · have hmul : (k + 1) * step ≤ i * step := Nat.mul_le_mul_right step (by omega)
          rw [Nat.succ_mul] at hmul; omega
        · have hmul : (i + 1) * step ≤ k * step := Nat.mul_le_mul_right step (by omega)
          rw [Nat.succ_mul] at hmul; omega
    · refine ⟨Nat.le_trans I.fr.size hst.fr.size, fun b hb hn => ?_, hst.fr.tape.trans I.fr.tape, hst.fr.os.trans I.fr.os, hst.fr.output.trans I.fr.output⟩
      refine (hst.fr.same b (Nat.lt_of_lt_of_le hb I.fr.size) ?_).trans (I.fr.same b hb hn)
      rintro ⟨m1, hm1, o1, l1, g1, gro, g2, g3, rfl⟩
      obtain ⟨m2, o2, l2, k1, kro, k2, k3, k4, k5⟩ := I.own m1 o1 l1 (hkey0 m1 o1 g1) g2 g3 hb
      refine hn ⟨m2, ?_, o2, l2, k1, kro.trans gro, k2, k3, k4⟩
      rcases k5 with rfl | k5
      · exact F.wrd d (List.mem_of_getElem? hDi) hwt m2 (by rw [qs.wr]; exact hm1)
      · exact k5
    · rw [addH n] at h1
      by_cases hnw : n ∈ d.w
      · rw [if_pos hnw, hdheap] at h1
        obtain ⟨m1, o', l', g1, gro, g2, g3, g4, g5⟩ := hst.own n o1 l h1 h2 h3 (Nat.lt_of_lt_of_le h4 I.fr.size)
        obtain ⟨m2, o2, l2, k1, kro, k2, k3, k4, k5⟩ := I.own m1 o' l' (hkey0 m1 o' g1) g2 g3 (by rw [g4]; exact h4)
        refine ⟨m2, o2, l2, k1, kro.trans gro, k2, k3, k4.trans g4, ?_⟩
        have hin : ∀ q ∈ h0.wr, q ∈ s'.hp.wr := fun q hq => F.wrd d (List.mem_of_getElem? hDi) hwt q (by rw [qs.wr]; exact hq)
        rcases k5 with rfl | k5
        · rcases g5 with rfl | g5
          · exact .inl rfl
          · exact .inr (hin _ g5)
        · exact .inr k5
      · rw [if_neg hnw] at h1
        obtain ⟨l', hl', _⟩ := I.rep.1 n o1 h1
        have := hst.le n l' hl'
        rw [h2] at this; cases this
        exact I.own n o1 _ h1 hl' h3 h4

def lst (listed : Array Bool) : Nat → Bool := fun k => listed.getD k false

theorem lst_set {listed : Array Bool} {i : Nat} (hi : i < listed.size) (k : Nat) : lst (listed.setIfInBounds i true) k = if k = i then true else lst listed k := by
  unfold lst
  simp only [Array.getD_eq_getD_getElem?]
  by_cases h : k = i
  · subst h; simp [hi]
  · rw [Array.getElem?_setIfInBounds_ne (Ne.symm h), if_neg h]

theorem least_out (S : Nat → Bool) : ∀ n, (∀ k, k < n → S k = true) ∨ ∃ i, i < n ∧ S i = false ∧ ∀ k, k < i → S k = true
  | 0 => .inl (fun k hk => by omega)
  | n + 1 => by
    rcases least_out S n with h | ⟨i, h1, h2, h3⟩
    · cases hs : S n with
      | true => exact .inl (fun k hk => by by_cases hkn : k = n; · rw [hkn]; exact hs
                                           · exact h k (by omega))
      | false => exact .inr ⟨n, by omega, hs, h⟩
    · exact .inr ⟨i, by omega, h2, h3⟩

theorem count_out {listed : Array Bool} (h : listed.toList.countP (fun b => !b) = 0) : ∀ k, k < listed.size → lst listed k = true := by
  intro k hk
  rw [List.countP_eq_zero] at h
  have := h listed[k] (by simp)
  unfold lst
  simp [Array.getD_eq_getD_getElem?, hk]
  simpa using this

theorem mem_ready {ops : Array Oper} {listed : Array Bool} {i : Nat} (hsz : listed.size = ops.size) : i ∈ Region.ready .any ops listed ↔ ∃ o, ops[i]? = some o ∧ lst listed i = false ∧ ∀ e ∈ o.after.toList, Region.binds .any e = true → lst listed e.on = true := by
  unfold Region.ready lst
  simp only [List.mem_filter, List.mem_range, Bool.and_eq_true, Bool.not_eq_true']
  constructor
  · rintro ⟨h1, h2, h3⟩
    have ho : ops[i]? = some ops[i] := Array.getElem?_eq_getElem h1
    refine ⟨_, ho, ?_, ?_⟩
    · simp only [Array.getD_eq_getD_getElem?] at h2 ⊢
      rw [Array.getElem?_eq_getElem (by omega)] at h2 ⊢
      exact h2
    · rw [ho] at h3
      simp only [Option.map_some, Option.getD_some, Array.all_eq_true'] at h3
      intro e he hb
      have := h3 e (by simpa using he)
      simpa [hb] using this
  · rintro ⟨o, ho, h2, h3⟩
    have hi : i < ops.size := (Array.getElem?_eq_some_iff.1 ho).1
    refine ⟨hi, ?_, ?_⟩
    · simp only [Array.getD_eq_getD_getElem?] at h2 ⊢
      rw [Array.getElem?_eq_getElem (by omega)] at h2 ⊢
      exact h2
    · rw [ho]
      simp only [Option.map_some, Option.getD_some, Array.all_eq_true']
      intro e he
      cases hb : Region.binds .any e with
      | false => simp
      | true => simpa using h3 e (by simpa using he) hb

theorem draw_any {E : Env} {m : Nat} {all : List Oper} {s s' : St} {lo step : Nat} {D : List DR} (F : DFacts E m all s lo step D s') (hoper : ∀ m' tm op hp v h', m' < m → oper E m' tm op hp = some (v, h') → OpOk E.P tm op hp v h')
    (hob : Obs s'.hp) {ancs : List Nat} (hanc : ancAll [] all = some ancs) (hord : orderlyAll D ancs D 0 = true) {ρ0 : Ren} (G0 : GOk ρ0) {w0 : World} {Q : Exit → Act → World → Prop}
    (hQ : ∀ ρ a w, DInv E.P D s s' lo step all.length ρ0 w0 (fun _ => true) ρ a w → Q .normal a w) :
    ∀ (fuel : Nat) (listed : Array Bool) (ρ : Ren) (a : Act) (w : World), listed.size = all.length → listed.toList.countP (fun b => !b) = fuel → (∀ (i : Nat) o, all[i]? = some o → lst listed i = true → ∀ e ∈ o.after.toList, Region.binds .any e = true → lst listed e.on = true) →
      DInv E.P D s s' lo step all.length ρ0 w0 (lst listed) ρ a w → wpAny E.P .any all.toArray Q fuel listed a w := by
  have hfin : ∀ (listed : Array Bool) ρ a w, (∀ k, k < all.length → lst listed k = true) → DInv E.P D s s' lo step all.length ρ0 w0 (lst listed) ρ a w → Q .normal a w := by
    intro listed ρ a w hall I
    have hT : ∀ t, cur (fun t => s.tmps[t]?) (wrT D s.tmps.length) (fun _ => true) all.length t = cur (fun t => s.tmps[t]?) (wrT D s.tmps.length) (lst listed) all.length t := fun t => cur_congr _ (fun k hk => (hall k hk).symm)
    have hH : ∀ n, cur (get s.hp.heap) (wrH D) (fun _ => true) all.length n = cur (get s.hp.heap) (wrH D) (lst listed) all.length n := fun t => cur_congr _ (fun k hk => (hall k hk).symm)
    exact hQ ρ a w ⟨I.size, fun t v h => I.rel t v (by rw [← hT]; exact h), I.defers, ⟨fun n o h => I.rep.1 n o (by rw [← hH]; exact h), fun n m o o' l l' h h' => I.rep.2 n m o o' l l' (by rw [← hH]; exact h) (by rw [← hH]; exact h')⟩, I.le, I.new, fun k hk hs => (by cases hs), I.fr, fun n o l h => I.own n o l (by rw [← hH]; exact h)⟩
  have hsz : ∀ (listed : Array Bool), listed.size = all.length → listed.size = all.toArray.size := fun l h => by simpa using h
  have hnil : ∀ (listed : Array Bool), listed.size = all.length → Region.ready .any all.toArray listed = [] → ∀ k, k < all.length → lst listed k = true := by
    intro listed hs hr
    rcases least_out (lst listed) all.length with h | ⟨i, h1, h2, h3⟩
    · exact h
    · exfalso
      have hi : i ∈ Region.ready .any all.toArray listed := by
        rw [mem_ready (hsz _ hs)]
        refine ⟨all[i], by simp [h1], h2, fun e he hb => h3 _ ?_⟩
        obtain ⟨g1, g2, g3⟩ := ancAll_spec all [] ancs hanc
        obtain ⟨x, _, hx⟩ := g3 i all[i] (List.getElem?_eq_getElem h1)
        have := ancOf_edge hx e he hb
        simp at this
        omega
      rw [hr] at hi; cases hi
  intro fuel
  induction fuel with
  | zero =>
    intro listed ρ a w hs hc hdc I
    have hall := count_out hc
    rw [hs] at hall
    refine ⟨?_, hfin listed ρ a w hall I⟩
    rw [List.eq_nil_iff_forall_not_mem]
    intro i hi
    rw [mem_ready (hsz _ hs)] at hi
    obtain ⟨o, ho, h1, _⟩ := hi
    have : i < all.length := by have := (Array.getElem?_eq_some_iff.1 ho).1; simpa using this
    rw [hall i this] at h1; cases h1
  | succ fuel ih =>
    intro listed ρ a w hs hc hdc I
    refine ⟨fun hr => hfin listed ρ a w (hnil listed hs hr) I, fun i hi => ?_⟩
    rw [mem_ready (hsz _ hs)] at hi
    obtain ⟨o, ho, h1, h2⟩ := hi
    have ho' : all[i]? = some o := by simpa using ho
    have hiN : i < all.length := (List.getElem?_eq_some_iff.1 ho').1
    refine draw_step F hoper hob hord G0 I ho' h1 (S' := lst (listed.setIfInBounds i true)) (lst_set (by omega)) ?_ ?_ (fun ρ' a' w' I' => ih _ ρ' a' w' (by simp [hs]) ?_ ?_ I')
    · intro x hx k hk
      exact (anc_closed hanc hdc (i + 1) i o x (by omega) ho' hx h2 k hk).1
    · intro k x hk hx hb
      obtain ⟨g1, g2, g3⟩ := ancAll_spec all [] ancs hanc
      have hkN : k < all.length := by have := (List.getElem?_eq_some_iff.1 hx).1; simp at g1; omega
      exact (anc_closed hanc hdc (k + 1) k all[k] x (by omega) (List.getElem?_eq_getElem hkN) hx (hdc k _ (List.getElem?_eq_getElem hkN) hk) i hb).1
    · have hl : listed.toList[i]'(by simp; omega) = false := by
        unfold lst at h1
        simp [Array.getD_eq_getD_getElem?, show i < listed.size by omega] at h1
        simpa using h1
      rw [Array.toList_setIfInBounds, List.countP_set (by simp; omega), hl, hc]
      simp
    · intro j o' hj hlj e he hb
      rw [lst_set (by omega)] at hlj ⊢
      by_cases hji : j = i
      · subst hji
        rw [ho'] at hj; cases hj
        split
        · rfl
        · exact h2 e he hb
      · rw [if_neg hji] at hlj
        split
        · rfl
        · exact hdc j o' hj hlj e he hb

/-- A region that draws its order. -/
theorem draw_region {E : Env} (G : Good E.P) {m : Nat} {ops : Array Oper} {id : Nat} {s : St} {s' : St} {D : List DR} {hs : List (Nat × List Hint)} (hoper : ∀ m' tm op hp v h', m' < m → oper E m' tm op hp = some (v, h') → OpOk E.P tm op hp v h') {ancs : List Nat} (hanc : ancAll [] ops.toList = some ancs)
    {s1 : St} (h1 : s1.tmps = s.tmps) (h2 : s1.hp.heap = s.hp.heap) (h3 : s1.hp.nxt = s.hp.nxt) (h4 : s1.hp.hi = s.hp.hi) (h5 : s1.hp.wr = s.hp.wr) (h6 : s1.hp.ob = s.hp.ob) {step : Nat}
    (e : drawOps E m ops.toList 0 ops.toList s.hp.nxt step hs s1 = some (D, s')) (hord : orderlyAll D ancs D 0 = true) : ExOk E.P (.region id ops true) s .norm s' := by
  have r := draw_run E ops.toList hs step s.hp.nxt s1 m ops.toList 0 s1 D s' [] [] (by simpa using e) rfl rfl rfl rfl
  have F : DFacts E m ops.toList s1 s.hp.nxt step D s' :=
    ⟨r.len, fun j d hj => by simpa using r.fact j d hj, r.tmps, r.heap, by simpa using r.nxt, by simpa using r.lim, r.hi, r.ob, r.obd, r.wr, r.wrd⟩
  have hmono : Mono s.hp s'.hp := ⟨fun p hp => F.ob p (by rw [h6]; exact hp), by rw [F.nxt]; omega, by rw [F.hi, h4], fun n hn => F.wr n (by rw [h5]; exact hn)⟩
  refine ⟨hmono, fun ho ρ a w Q pre post => ?_⟩
  refine wp_region_any G.mixed ?_
  have hinit : ∀ k, lst (Array.replicate ops.size false) k = false := by
    intro k
    unfold lst
    simp only [Array.getD_eq_getD_getElem?, Array.getElem?_replicate]
    split <;> rfl
  have hl : ops.size = ops.toList.length := by simp
  have hsz : a.tmps.size = s1.tmps.length := by have := pre.rel.1; rw [h1]; simp at this; omega
  have hfr : ∀ b, Fr w { w with drawn := w.drawn + 1 } b := fun b => ⟨Nat.le_refl _, fun _ _ _ => rfl, rfl, rfl, rfl⟩
  have I0 : DInv E.P D s1 s' s.hp.nxt step ops.toList.length ρ w (lst (Array.replicate ops.size false)) ρ a { w with drawn := w.drawn + 1 } := by
    refine ⟨hsz, fun t v hv => ?_, pre.defers, ⟨fun n o hn => ?_, fun n m o o' l l' hn hm => ?_⟩, Le.refl ρ, fun n l a b => (by rw [a] at b; cases b), fun k hk _ n g1 g2 => ?_, hfr _, fun n o l hn q1 q2 _ => ?_⟩
    · rw [cur_none hinit, h1] at hv
      obtain ⟨x, hx, hr⟩ := pre.rel.2 t v hv
      exact ⟨x, by simpa using hx, hr⟩
    · rw [cur_none hinit, h2] at hn
      exact (pre.rep.congr (w' := { w with drawn := w.drawn + 1 }) rfl).1 n o hn
    · rw [cur_none hinit, h2] at hn hm
      exact pre.rep.2 n m o o' l l' hn hm
    · have hlim := F.lim
      rw [h4] at hlim
      have hmul : (k + 1) * step ≤ ops.toList.length * step := Nat.mul_le_mul_right step (by omega)
      rw [Nat.succ_mul] at hmul
      exact pre.fresh n (by omega) (by omega)
    · rw [cur_none hinit] at hn
      exact ⟨n, o, l, hn, rfl, q1, q2, rfl, .inl rfl⟩
  have key := draw_any F hoper ho hanc hord (ρ0 := ρ) pre.glob (w0 := w) (Q := Q) (fun ρ' a' w' I => ?_) ops.size (Array.replicate ops.size false) ρ a { w with drawn := w.drawn + 1 } (by simp) (by simp [List.countP_replicate]) (fun i o _ h => by rw [hinit] at h; cases h) I0
  · simpa using key
  ·
    have hN : D.length = ops.toList.length := F.len
    have hT : ∀ t, s'.tmps[t]? = cur (fun t => s1.tmps[t]?) (wrT D s1.tmps.length) (fun _ => true) ops.toList.length t := by
      intro t
      rw [F.tmps, ← curT_after D s1.tmps ops.toList.length (by omega) t, ← hN, List.take_length]
    have hH : ∀ n, get s'.hp.heap n = cur (get s1.hp.heap) (wrH D) (fun _ => true) ops.toList.length n := by
      intro n
      rw [F.heap, ← curH_after D s1.hp.heap ops.toList.length (by omega) n, ← hN, List.take_length]
    refine post ρ' a' w' ⟨by rw [F.tmps, afterT_length]; simp [I.size], fun k v hv => ?_⟩ I.defers ⟨I.le, fun n l q1 q2 => ?_, ⟨fun n o hn => I.rep.1 n o (by rw [← hH]; exact hn), fun n m o o' l l' hn hm => I.rep.2 n m o o' l l' (by rw [← hH]; exact hn) (by rw [← hH]; exact hm)⟩, ?_, fun n o l hn q1 q2 q3 => ?_⟩
    · obtain ⟨x, hx, hr⟩ := I.rel k v (by rw [← hT]; exact hv)
      exact ⟨x, by simpa using hx, hr⟩
    · rw [F.nxt]; exact I.new n l q1 q2
    · rw [← h2]; exact I.fr
    · rw [← h2]; exact I.own n o l (by rw [← hH]; exact hn) q1 q2 q3

end Go.Ev
