/-
  EvEntry and what follows it.
-/
import Derived.Test.YtmndhjodbnojdaaDoorEvMaps
import Derived.Test.YtmndhjodbnojdaaDoorEvApp
/-
  Map entries as operations of their own.
-/
set_option linter.unusedSimpArgs false
set_option linter.unusedVariables false
namespace Go.Ev
theorem set_twice {α : Type} : ∀ (l : List (Nat × α)) (k : Nat) (x y : α), set (set l k x) k y = set l k y
  | [], k, x, y => by simp [set]
  | (n, z) :: r, k, x, y => by
    simp only [set]
    split
    · rename_i h; simp [set, h]
    · rename_i h; simp only [set, h, set_twice r k x y]

theorem entry_run {P : Program} {ρ : Ren} {w : World} {t : TypeId} {key : AV} {h : Hp} {ks : List CK} {agg : Bool} {vk : IntKind} {b : Nat} {k : List Int} {f : List Int → Option Int} {z0 : Bool} (hmk : mapKinds P t = some (ks, agg, vk)) (hz : zeroOk P t vk = some z0)
    (hk : keyOf ks agg key = some k) (hg : get h.heap b = some (.map t f)) (hr : HeapRep P ρ h.heap w) {M K : Value} (hM : relS ρ (.map b) M) (hK : relS ρ key K) :
    ∃ L s w1, ρ b = some L ∧ M = .map (some L.blk) ∧ keyWf ks k ∧ (Instr.mapEntry t M K).run P w = .ok (.tuple #[.int vk (mval f k), goInt (s : Nat)]) w1 ∧
      Step P ρ h w ρ (h.put b (.map t (setKey f k (some (mval f k))))) w1 ∧ ∃ es c, w1.heap[L.blk]? = some (.map es c) ∧ ∃ e, e ∈ es.toList ∧ e.key = keyVal ks agg k ∧ e.born = s := by
  have hu : updateA P t (.map b) key (.sym vk (mval f k)) h = some (h.put b (.map t (setKey f k (some (mval f k))))) := by
    simp [updateA, hmk, asI, hk, hg]
  obtain ⟨w', hrun, st⟩ := (update_ok (ρ := ρ) (w := w) hu).2 hr M K (.int vk (mval f k)) hM hK (.inr rfl)
  obtain ⟨kt, et, ty⟩ := mapKinds_ty hmk
  obtain ⟨rfl, hw⟩ := keyOf_den ty hk hK
  have hd := relS_den hM (by simp)
  simp only [den] at hd
  cases hb : ρ b with
  | none => simp [hb] at hd
  | some L =>
    simp only [hb] at hd; cases hd
    obtain ⟨h0, h1, ks', agg', vk', hmk', es, clock, hblk, hbo, kl, hes, hnd, hkw, hf⟩ := hr.obj hg hb
    rw [hmk] at hmk'; cases hmk'
    have hlt : L.blk < w.heap.size := (Array.getElem?_eq_some_iff.1 hblk).1
    have hfind := findKey_ok (w := w) ty hw hes hkw
    have hget : (getObj L.blk).run P w = .ok (.map es clock) w := by simp [getObj, Sem.run, hblk]
    have hchk := checkKey_ok (w := w) ty hw false
    have hzr := zero_run (w := w) ty hz
    have hfk : f k = (findK k kl 0).map (·.2) := by rw [hf k hw, findK_find]
    cases hfo : findK k kl 0 with
    | none =>
      rw [hfo] at hfind hfk
      simp at hfk
      have hmv : mval f k = 0 := by simp [mval, hfk]
      rw [hmv] at hrun st ⊢
      have hW : (Instr.mapUpdate t (.map (some L.blk)) (keyVal ks agg k) (.int vk 0)).run P w = .ok () { w with heap := w.heap.setIfInBounds L.blk (.map (es.push { key := keyVal ks agg k, val := .int vk 0, born := clock }) (clock + 1)) } := by
        simp [Instr.mapUpdate, run_underlying' ty.map, hget, hchk, hfind, run_setObj _ hblk]
      rw [hW] at hrun; cases hrun
      refine ⟨L, clock, _, rfl, rfl, hw, ?_, st, es.push { key := keyVal ks agg k, val := .int vk 0, born := clock }, clock + 1, by simp [hlt], { key := keyVal ks agg k, val := .int vk 0, born := clock }, by simp, rfl, rfl⟩
      simp [Instr.mapEntry, run_underlying' ty.map, hget, hchk, hfind, hzr, run_setObj _ hblk]
    | some p =>
      obtain ⟨i, n0⟩ := p
      rw [hfo] at hfind hfk
      simp at hfk
      have hmv : mval f k = n0 := by simp [mval, hfk]
      rw [hmv] at hrun st ⊢
      obtain ⟨_, hi⟩ := findK_some kl 0 i n0 hfo
      simp only [Nat.sub_zero] at hi
      have hi2 : (es.toList.map (fun e => (e.key, e.val)))[i]? = some (keyVal ks agg k, .int vk n0) := by rw [hes]; simp [hi]
      simp only [List.getElem?_map] at hi2
      cases hei : es.toList[i]? with
      | none => simp [hei] at hi2
      | some e0 =>
        simp [hei] at hi2
        have hei' : es[i]? = some e0 := by simpa using hei
        have hilt : i < es.size := (Array.getElem?_eq_some_iff.1 hei').1
        have hstay : (Instr.keyThatStays (((es[i]?).map (·.key)).getD (keyVal ks agg k)) (keyVal ks agg k)).run P w = .ok (keyVal ks agg k) w := by
          simp [Instr.keyThatStays, hei', hi2.1, sameBits_key ty hw]
        have hW : (Instr.mapUpdate t (.map (some L.blk)) (keyVal ks agg k) (.int vk n0)).run P w = .ok () { w with heap := w.heap.setIfInBounds L.blk (.map (es.modify i fun e => { e with key := keyVal ks agg k, val := .int vk n0 }) clock) } := by
          simp only [Instr.mapUpdate, Sem.run_bind, run_underlying' ty.map, Result.andThen_ok, hget, hchk, hfind, Option.map_some, hstay, run_setObj _ hblk]
        rw [hW] at hrun; cases hrun
        have hmod : (es.modify i fun e => { e with key := keyVal ks agg k }) = es.modify i fun e => { e with key := keyVal ks agg k, val := .int vk n0 } := by
          apply Array.ext_getElem?
          intro j
          simp only [Array.getElem?_modify]
          by_cases hj : i = j
          · subst hj; simp [hei', ← hi2.2]
          · simp [hj]
        refine ⟨L, e0.born, _, rfl, rfl, hw, ?_, st, es.modify i fun e => { e with key := keyVal ks agg k, val := .int vk n0 }, clock, by simp [hlt], { e0 with key := keyVal ks agg k, val := .int vk n0 }, ?_, rfl, rfl⟩
        · simp only [Instr.mapEntry, Sem.run_bind, run_underlying' ty.map, Result.andThen_ok, hget, hchk, hfind, Option.map_some, hstay, run_setObj _ hblk, Sem.run_pure, hmod]
          simp [hei']
        · refine List.mem_of_getElem? (i := i) ?_
          simp [Array.getElem?_modify, hei']

theorem add_twice (b : Nat) (l : List Nat) : add b (add b l) = add b l := by
  have : mem b (add b l) = true := (mem_iff b _).2 (mem_add.2 (.inl rfl))
  rw [add, this]

theorem entryA_ok {P : Program} {ρ : Ren} {w : World} {t : TypeId} {m key r : AV} {h h' : Hp} (e : entryA P t m key h = some (r, h')) :
    Mono h h' ∧ r ≠ .top ∧ (Fresh ρ h.nxt h.hi → HeapRep P ρ h.heap w → ∀ M K, relS ρ m M → relS ρ key K → ∃ ρ' x w', (Instr.mapEntry t M K).run P w = .ok x w' ∧ den ρ' r = some x ∧ Step P ρ h w ρ' h' w') := by
  unfold entryA at e
  split at e
  · rename_i ks agg vk b hmk
    split at e
    · rename_i z0 k t' f hz hk hg hlt
      split at e
      · rename_i htt
        have htt := Nat.eq_of_beq_eq_true htt; subst htt
        have hlt : h.nxt < h.hi := by simpa [Nat.blt_eq] using hlt
        cases e
        refine ⟨⟨fun p x => x, Nat.le_succ _, rfl, fun n x => mem_add.2 (.inr x)⟩, by simp, fun hf hr M K hM hK => ?_⟩
        obtain ⟨L, s, w1, hb, rfl, hw, hrun, st, es, c, hblk, e0, he1, he2, he3⟩ := entry_run hmk hz hk hg hr hM hK
        let f1 := setKey f k (some (mval f k))
        let h1 := h.put b (.map t f1)
        let ls : Loc := ⟨s, 0, 0, 0, false⟩
        have st2 := name_step (h := h1) st.rep hf hlt ls rfl
        have hn : ρ h.nxt = none := hf _ (Nat.le_refl _) hlt
        have hbn : b ≠ h.nxt := fun x => by rw [x, hn] at hb; cases hb
        have hb' : (ρ.set h.nxt ls) b = some L := by rw [Ren.set_ne hbn]; exact hb
        have hg1 : get h1.heap b = some (.map t f1) := by simp [h1, Hp.put, get_set]
        obtain ⟨l', hl', ho⟩ := st2.rep.1 b _ hg1
        rw [show (ρ.set h1.nxt ls) = ρ.set h.nxt ls from rfl, hb'] at hl'; cases hl'
        obtain ⟨h0, hc, ks', agg', vk', hmk', es', clock, hblk', hbo, hm⟩ := ho
        rw [hmk] at hmk'; cases hmk'
        rw [hblk] at hblk'; cases hblk'
        have st3 := put_step (h := { h1 with nxt := h1.nxt + 1 }) (w' := w1) (o' := .mapP t f1 h.nxt k) st2.rep hg1 rfl rfl hb' hc (fun _ _ => rfl) (Nat.le_refl _) rfl rfl rfl
          ⟨h0, hc, ks, agg, vk, hmk, hw, es, c, hblk, hbo, hm, ls, e0, Ren.set_same _ _ _, he1, he2, he3⟩
        have m1 : Mono h h1 := put_mono _ _ _
        have m2 : Mono h1 { h1 with nxt := h1.nxt + 1 } := ⟨fun p x => x, Nat.le_succ _, rfl, fun n x => x⟩
        have st4 := (st.trans st2 m1 m2).trans st3 (m1.trans m2) (put_mono _ _ _)
        refine ⟨ρ.set h.nxt ls, _, w1, hrun, ?_, ?_⟩
        · simp [den, denL, Ren.set_same, ls]
        · have : ({ h1 with nxt := h1.nxt + 1 } : Hp).put b (.mapP t f1 h.nxt k) = { (h.put b (.mapP t f1 h.nxt k)) with nxt := h.nxt + 1 } := by
            simp [h1, Hp.put, set_twice, add_twice]
          rw [this] at st4
          exact st4
      · cases e
    · cases e
  · cases e

theorem keyCells_inj : ∀ (ks : List CK) (l l' : List Int), keyWf ks l → keyWf ks l' → keyCells ks l = keyCells ks l' → l = l'
  | [], [], [], _, _, _ => rfl
  | [], _ :: _, _, h, _, _ => by simp [keyWf] at h
  | [], [], _ :: _, _, h, _ => by simp [keyWf] at h
  | .int _ :: _, [], _, h, _, _ => by simp [keyWf] at h
  | .int _ :: _, _ :: _, [], _, h, _ => by simp [keyWf] at h
  | .bool :: _, [], _, h, _, _ => by simp [keyWf] at h
  | .bool :: _, _ :: _, [], _, h, _ => by simp [keyWf] at h
  | .val :: _, [], _, h, _, _ => by simp [keyWf] at h
  | .val :: _, _ :: _, _, h, _, _ => by simp [keyWf] at h
  | .int k :: ks, n :: ns, n' :: ns', h, h', e => by
    simp only [keyCells, cellKey, List.cons.injEq, Value.int.injEq, true_and] at e
    rw [e.1, keyCells_inj ks ns ns' h h' e.2]
  | .bool :: ks, n :: ns, n' :: ns', h, h', e => by
    simp only [keyCells, cellKey, List.cons.injEq, Value.bool.injEq] at e
    rw [keyCells_inj ks ns ns' h.2 h'.2 e.2]
    have : n = n' := by
      rcases h.1 with rfl | rfl <;> rcases h'.1 with rfl | rfl <;> simp at e <;> rfl
    rw [this]

theorem keyVal_inj {P : Program} {t kt et : TypeId} {ks : List CK} {agg : Bool} {vk : IntKind} (ty : MapTy P t ks agg vk kt et) {k k' : List Int} (h : keyWf ks k) (h' : keyWf ks k') (e : keyVal ks agg k = keyVal ks agg k') : k = k' := by
  rcases ty.key with ⟨kk, hu, rfl, rfl⟩ | ⟨fs, hu, rfl, hs, hl⟩
  · match k, k', h, h' with
    | [m], [m'], _, _ => simpa [keyVal, keyCells, cellKey] using e
    | [], _, h, _ => simp [keyWf] at h
    | _ :: _ :: _, _, h, _ => simp [keyWf] at h
    | [_], [], _, h => simp [keyWf] at h
    | [_], _ :: _ :: _, _, h => simp [keyWf] at h
  · exact keyCells_inj ks k k' h h' (by simpa [keyVal] using e)

/-- An entry's value is set: what the map says then. -/
theorem rep_set {ks : List CK} {agg : Bool} {vk : IntKind} {es : Array MapEntry} {f : List Int → Option Int} {kl : List (List Int × Int)} {i : Nat} {k : List Int} {n0 n : Int} {e0 : MapEntry}
    (hes : es.toList.map (fun e => (e.key, e.val)) = kl.map (fun x => (keyVal ks agg x.1, Value.int vk x.2))) (hnd : (kl.map (·.1)).Nodup) (hkw : ∀ x ∈ kl, keyWf ks x.1) (hf : ∀ k, keyWf ks k → f k = (kl.find? (fun x => x.1 == k)).map (·.2))
    (hi : kl[i]? = some (k, n0)) (hei : es[i]? = some e0) (hek : e0.key = keyVal ks agg k) : MapRep ks agg vk (es.modify i fun e => { e with val := .int vk n }).toList (setKey f k (some n)) := by
  have hw : keyWf ks k := hkw (k, n0) (List.mem_of_getElem? hi)
  have hkl : ∀ (j : Nat), (kl.modify i (fun x => (k, n)))[j]? = if j = i then some (k, n) else kl[j]? := by
    intro j
    rw [List.getElem?_modify]
    by_cases hj : j = i
    · subst hj; simp [hi]
    · simp [hj, Ne.symm hj]
  have hfst : (kl.modify i (fun x => (k, n))).map (·.1) = kl.map (·.1) := by
    refine List.ext_getElem? fun j => ?_
    rw [List.getElem?_map, hkl, List.getElem?_map]
    by_cases hj : j = i
    · subst hj; simp [hi]
    · simp [hj]
  refine ⟨kl.modify i (fun x => (k, n)), ?_, by rw [hfst]; exact hnd, ?_, fun k' hk' => ?_⟩
  · refine List.ext_getElem? fun j => ?_
    have hj0 : (es.toList.map (fun e => (e.key, e.val)))[j]? = (kl.map (fun x => (keyVal ks agg x.1, Value.int vk x.2)))[j]? := by rw [hes]
    simp only [List.getElem?_map] at hj0 ⊢
    rw [hkl, Array.getElem?_toList, Array.getElem?_modify]
    by_cases hj : j = i
    · subst hj; simp [hei, hek]
    · simp only [hj, if_false, Ne.symm hj]
      simpa using hj0
  · intro x hx
    obtain ⟨j, hj⟩ := List.mem_iff_getElem?.1 hx
    rw [hkl] at hj
    split at hj
    · cases hj; exact hw
    · exact hkw x (List.mem_of_getElem? hj)
  · simp only [setKey]
    by_cases hkk : k' = k
    · subst hkk
      rw [if_pos rfl, find_map_eq (i := i) (n := n) (by rw [hfst]; exact hnd) (by rw [hkl, if_pos rfl])]
      rfl
    · rw [if_neg hkk, hf k' hk']
      cases hfk : kl.find? (fun x => x.1 == k') with
      | none =>
        have : (kl.modify i (fun x => (k, n))).find? (fun x => x.1 == k') = none := by
          rw [List.find?_eq_none] at hfk ⊢
          intro x hx
          obtain ⟨j, hj⟩ := List.mem_iff_getElem?.1 hx
          rw [hkl] at hj
          split at hj
          · cases hj; simpa using Ne.symm hkk
          · exact hfk x (List.mem_of_getElem? hj)
        rw [this]
      | some x =>
        have hx := List.find?_some hfk
        have hx1 : x.1 = k' := by simpa using hx
        obtain ⟨j, hj⟩ := List.mem_iff_getElem?.1 (List.mem_of_find?_eq_some hfk)
        have hji : j ≠ i := by
          intro e; subst e; rw [hi] at hj; cases hj; exact hkk hx1.symm
        obtain ⟨x1, x2⟩ := x
        simp only at hx1; subst hx1
        rw [find_map_eq (i := j) (n := x2) (by rw [hfst]; exact hnd) (by rw [hkl, if_neg hji]; exact hj)]

theorem entryStoreA_ok {P : Program} {ρ : Ren} {w : World} {t : TypeId} {m s v : AV} {h h' : Hp} (e : entryStoreA P t m s v h = some h') :
    Mono h h' ∧ (HeapRep P ρ h.heap w → ∀ M S V, relS ρ m M → relS ρ s S → relS ρ v V → ∃ w', (Instr.entryStore t M S V).run P w = .ok () w' ∧ Step P ρ h w ρ h' w') := by
  unfold entryStoreA at e
  split at e
  · rename_i ks agg vk b n vk' c x hmk hv
    split at e
    · rename_i t' f n' k hg hvk
      split at e
      · rename_i htt hnn
        have htt := Nat.eq_of_beq_eq_true htt; subst htt
        have hnn := Nat.eq_of_beq_eq_true hnn; subst hnn
        have hvk := of_decide_eq_true hvk; subst hvk
        cases e
        refine ⟨put_mono _ _ _, fun hr M S V hM hS hV => ?_⟩
        obtain ⟨kt, et, ty⟩ := mapKinds_ty hmk
        obtain ⟨hv1, hv2⟩ := asI_den (ρ := ρ) hv
        have := relS_den hV hv2; rw [hv1] at this; cases this
        obtain ⟨L, hb, h0, hc, ks', agg', vk', hmk', hw, es, clock, hblk, hbo, hm, ls, e0, hls, hmem, hek, heb⟩ := hr.1 b _ hg
        rw [hmk] at hmk'; cases hmk'
        have hd := relS_den hM (by simp)
        simp only [den, hb] at hd; cases hd
        have hs := relS_den hS (by simp)
        simp only [den, hls] at hs; cases hs
        have hlt : L.blk < w.heap.size := (Array.getElem?_eq_some_iff.1 hblk).1
        obtain ⟨kl, hes, hnd, hkw, hf⟩ := hm
        obtain ⟨i, hei⟩ := List.mem_iff_getElem?.1 hmem
        have hei' : es[i]? = some e0 := by simpa using hei
        have hilt : i < es.size := (Array.getElem?_eq_some_iff.1 hei').1
        have hei2 : es[i] = e0 := (Array.getElem?_eq_some_iff.1 hei').2
        have hi2 : (es.toList.map (fun e => (e.key, e.val)))[i]? = some (e0.key, e0.val) := by simp [hei']
        rw [hes, List.getElem?_map] at hi2
        cases hki : kl[i]? with
        | none => simp [hki] at hi2
        | some p =>
          obtain ⟨k1, n0⟩ := p
          simp [hki] at hi2
          have hk1 : k1 = k := keyVal_inj ty (hkw _ (List.mem_of_getElem? hki)) hw (hi2.1.trans hek)
          subst hk1
          have hidx : es.findIdx? (fun e => (e.born : Int) == (ls.blk : Int)) = some i := by
            rw [Array.findIdx?_eq_some_iff_getElem]
            refine ⟨hilt, by rw [hei2, heb]; simp, fun j hj => ?_⟩
            have hjs : j < es.size := by omega
            simp only [beq_iff_eq, Int.natCast_inj]
            intro hbe
            have q1 : (es.toList.map (·.born))[j]? = some es[j].born := by simp [hjs]
            have q2 : (es.toList.map (·.born))[i]? = some es[j].born := by rw [List.getElem?_map, hei]; simp [hbe, heb]
            have := (List.getElem?_inj (List.getElem?_eq_some_iff.1 q1).1 hbo.2).1 (q1.trans q2.symm)
            omega
          have hget : (getObj L.blk).run P w = .ok (.map es clock) w := by simp [getObj, Sem.run, hblk]
          refine ⟨{ w with heap := w.heap.setIfInBounds L.blk (.map (es.modify i fun e => { e with val := .int vk x }) clock) }, ?_, ?_⟩
          · simp only [Instr.entryStore, Sem.run_bind, Result.andThen_ok, hget, asInt, asIntOf, goInt, Sem.run_pure, hidx, run_setObj _ hblk]
          · exact put_step hr hg rfl rfl hb hc (fun q hq => by simp [Array.getElem?_setIfInBounds_ne (Ne.symm hq)]) (by simp) rfl rfl rfl
              ⟨h0, hc, ks, agg, vk, hmk, es.modify i fun e => { e with val := .int vk x }, clock, by simp [hlt], born_modify hbo (fun _ => rfl), rep_set hes hnd hkw hf hki hei' hek⟩
      · cases e
    · cases e
  · cases e
end Go.Ev

/-
  An operation that calls no Go function: the soundness of the evaluator, ninth part.
-/
set_option linter.unusedSimpArgs false
set_option linter.unusedVariables false
namespace Go.Ev

theorem evA_ok {ρ : Ren} (G : GOk ρ) {tmps : List AV} {x : Operand} {v : AV} (e : evA tmps x = some v) {a : Act} (hr : RelL ρ tmps a.tmps.toList) : relS ρ v (a.eval x) := by
  cases x with
  | tmp t =>
    simp only [evA, nth_eq] at e
    obtain ⟨y, hy, h⟩ := hr.2 t v e
    simp only [Array.getElem?_toList] at hy
    simp only [Act.eval, Array.getD_eq_getD_getElem?, hy, Option.getD_some]
    exact h
  | const c => simp only [evA] at e; cases e; exact .inr (ofVal_den ρ c)
  | global g =>
    simp only [evA] at e; cases e
    obtain ⟨l, hl, h1, h2, h3⟩ := G g
    exact .inr (by simp [den, hl, h1, h2, h3, Act.eval])
  | func f => simp only [evA] at e; cases e; exact .inr (by simp [den, denL, Act.eval])

theorem evAll_ok {ρ : Ren} (G : GOk ρ) {tmps : List AV} {a : Act} (hr : RelL ρ tmps a.tmps.toList) : ∀ (xs : List Operand) (l : List AV), evAll tmps xs = some l → RelL ρ l (xs.map a.eval)
  | [], l, e => by simp [evAll] at e; subst e; exact ⟨rfl, by simp⟩
  | x :: r, l, e => by
    simp only [evAll] at e
    split at e
    · cases e
    rename_i v hv
    split at e
    · cases e
    rename_i l' hl
    cases e
    have ih := evAll_ok G hr r l' hl
    refine ⟨by simp [ih.1], fun k u hk => ?_⟩
    cases k with
    | zero => simp at hk; subst hk; exact ⟨a.eval x, by simp, evA_ok G hv hr⟩
    | succ k =>
      simp at hk
      obtain ⟨y, hy, h⟩ := ih.2 k u hk
      exact ⟨y, by simpa using hy, h⟩

theorem partOk_known {v : AV} (h : v.partOk = true) : v ≠ .top := by intro e; subst e; simp [AV.partOk, AV.oneCell] at h

theorem evParts_ok {ρ : Ren} (G : GOk ρ) {tmps : List AV} {a : Act} (hr : RelL ρ tmps a.tmps.toList) : ∀ (xs : List (Nat × Operand)) (l : List (Nat × AV)), evParts tmps xs = some l → PartsRel ρ l (xs.map fun (i, x) => (i, a.eval x))
  | [], l, e => by simp [evParts] at e; subst e; exact ⟨rfl, by simp⟩
  | (i, x) :: r, l, e => by
    simp only [evParts] at e
    split at e
    · cases e
    rename_i v hv
    split at e
    · rename_i l' hp hl
      cases e
      have ih := evParts_ok G hr r l' hl
      refine ⟨by simp [ih.1], fun k j u hk => ?_⟩
      cases k with
      | zero => simp at hk; obtain ⟨rfl, rfl⟩ := hk; exact ⟨hp, a.eval x, by simp, relS_den (evA_ok G hv hr) (partOk_known hp)⟩
      | succ k =>
        simp at hk
        obtain ⟨p, y, hy, h⟩ := ih.2 k j u hk
        exact ⟨p, y, by simpa using hy, h⟩
    · cases e

theorem evOpt_ok {ρ : Ren} (G : GOk ρ) {tmps : List AV} {a : Act} (hr : RelL ρ tmps a.tmps.toList) {x : Option Operand} {v : Option AV} (e : evOpt tmps x = some v) : OptRel ρ v (x.map a.eval) := by
  cases x with
  | none => simp [evOpt] at e; subst e; trivial
  | some x =>
    simp only [evOpt] at e
    split at e
    · cases e
    · rename_i u hu; cases e; exact evA_ok G hu hr

/-! ### small ones -/
theorem len_ok {P : Program} {ρ : Ren} {w : World} {t : TypeId} {x r : AV} {X : Value} (e : lenA P t x = some r) (hx : relS ρ x X) (a : TypeId) : ∃ z, (Builtin.len_ #[t] a #[X]).run P w = .ok z w ∧ den ρ r = some z := by
  unfold lenA at e
  split at e
  · rename_i el hu; cases e
    have := relS_den hx (by simp); simp [den] at this; subst this
    exact ⟨_, by simp [Builtin.len_, run_underlying' hu]; rfl, by simp [den, goInt]⟩
  · rename_i el wd b off n c hu; cases e
    obtain ⟨L, _, _, _, _, _, rfl⟩ := den_xs (relS_den hx (by simp))
    exact ⟨_, by simp [Builtin.len_, run_underlying' hu]; rfl, by simp [den, goInt]⟩
  · rename_i el wd b off n c hu; cases e
    obtain ⟨L, _, _, ⟨_, _, rfl, _, rfl⟩ | ⟨_, _, _, rfl⟩⟩ := den_ss (relS_den hx (by simp))
    · exact ⟨_, by simp [Builtin.len_, run_underlying' hu]; rfl, by simp [den, goInt]⟩
    · exact ⟨_, by simp [Builtin.len_, run_underlying' hu]; rfl, by simp [den, goInt]⟩
  · rename_i n el hu; cases e
    exact ⟨_, by simp [Builtin.len_, run_underlying' hu]; rfl, by simp [den, goInt]⟩
  · cases e

theorem cap_ok {P : Program} {ρ : Ren} {w : World} {t : TypeId} {x r : AV} {X : Value} (e : capA P t x = some r) (hx : relS ρ x X) (a : TypeId) : ∃ z, (Builtin.cap_ #[t] a #[X]).run P w = .ok z w ∧ den ρ r = some z := by
  unfold capA at e
  split at e
  · rename_i el hu; cases e
    have := relS_den hx (by simp); simp [den] at this; subst this
    exact ⟨_, by simp [Builtin.cap_, run_underlying' hu]; rfl, by simp [den, goInt]⟩
  · rename_i el wd b off n c hu; cases e
    obtain ⟨L, _, _, _, _, _, rfl⟩ := den_xs (relS_den hx (by simp))
    exact ⟨_, by simp [Builtin.cap_, run_underlying' hu]; rfl, by simp [den, goInt, capOr]⟩
  · rename_i el wd b off n c hu; cases e
    obtain ⟨L, _, _, ⟨_, _, _, h0, rfl⟩ | ⟨_, _, _, rfl⟩⟩ := den_ss (relS_den hx (by simp))
    · simp [capOr] at h0; subst h0
      exact ⟨_, by simp [Builtin.cap_, run_underlying' hu]; rfl, by simp [den, goInt]⟩
    · exact ⟨_, by simp [Builtin.cap_, run_underlying' hu]; rfl, by simp [den, goInt, capOr]⟩
  · cases e

theorem fold_ok {P : Program} {ρ : Ren} {w : World} {f : AV → AV → Option AV} {g : Value → Value → Sem Value} (hfg : ∀ x y z X Y, f x y = some z → relS ρ x X → relS ρ y Y → ∃ Z, (g X Y).run P w = .ok Z w ∧ relS ρ z Z) :
    ∀ (l : List AV) (xs : List Value) (x r : AV) (X : Value), foldA f x l = some r → RelL ρ l xs → relS ρ x X → ∃ Z, (xs.foldlM g X).run P w = .ok Z w ∧ relS ρ r Z
  | [], xs, x, r, X, e, hl, hx => by
    simp only [foldA] at e; cases e
    have : xs = [] := by have := hl.1; simpa using this.symm
    subst this
    exact ⟨X, by simp, hx⟩
  | y :: l, xs, x, r, X, e, hl, hx => by
    simp only [foldA] at e
    split at e
    · rename_i z hz
      obtain ⟨Y, hY, hry⟩ := hl.2 0 y (by simp)
      match xs, hY with
      | Y' :: xs', hY =>
        simp at hY; subst hY
        obtain ⟨Z, hZ, hrz⟩ := hfg x y z X Y' hz hx hry
        obtain ⟨Z', hZ', hr'⟩ := fold_ok hfg l xs' z r Z e ⟨by simpa using hl.1, fun k v hv => by
          obtain ⟨u, hu, hr⟩ := hl.2 (k + 1) v (by simpa using hv)
          exact ⟨u, by simpa using hu, hr⟩⟩ hrz
        exact ⟨Z', by simp [List.foldlM_cons, hZ, hZ'], hr'⟩
    · cases e

theorem min2_ok {P : Program} {ρ : Ren} {w : World} (x y z : AV) (X Y : Value) (e : min2A x y = some z) (hx : relS ρ x X) (hy : relS ρ y Y) : ∃ Z, (Builtin.min2 X Y).run P w = .ok Z w ∧ relS ρ z Z := by
  unfold min2A at e
  split at e
  · rename_i k c a k' d b h1 h2
    cases e
    obtain ⟨d1, t1⟩ := asI_den (ρ := ρ) h1
    obtain ⟨d2, t2⟩ := asI_den (ρ := ρ) h2
    have := relS_den hx t1; rw [d1] at this; cases this
    have := relS_den hy t2; rw [d2] at this; cases this
    exact ⟨_, by simp [Builtin.min2], .inr mkI_den⟩
  · cases e

theorem max2_ok {P : Program} {ρ : Ren} {w : World} (x y z : AV) (X Y : Value) (e : max2A x y = some z) (hx : relS ρ x X) (hy : relS ρ y Y) : ∃ Z, (Builtin.max2 X Y).run P w = .ok Z w ∧ relS ρ z Z := by
  unfold max2A at e
  split at e
  · rename_i k c a k' d b h1 h2
    cases e
    obtain ⟨d1, t1⟩ := asI_den (ρ := ρ) h1
    obtain ⟨d2, t2⟩ := asI_den (ρ := ρ) h2
    have := relS_den hx t1; rw [d1] at this; cases this
    have := relS_den hy t2; rw [d2] at this; cases this
    exact ⟨_, by simp [Builtin.max2], .inr mkI_den⟩
  · cases e

/-! ### the operation -/
/-- What an operation does, said of the machine's. -/
def OpRuns (P : Program) (ρ : Ren) (w : World) (h h' : Hp) (v : AV) (s : Sem Next) : Prop :=
  ∃ ρ' w', ((∃ x, s.run P w = .ok (.value x) w' ∧ relS ρ' v x) ∨ (s.run P w = .ok .skip w' ∧ v = .tup [])) ∧ Step P ρ h w ρ' h' w'

theorem opRuns_val {P : Program} {ρ : Ren} {w : World} {h h' : Hp} {v : AV} {s : Sem Value} {x : Value} (hs : s.run P w = .ok x w) (hd : relS ρ v x) (hr : HeapRep P ρ h.heap w) (q : h'.heap = h.heap) : OpRuns P ρ w h h' v (do pure (.value (← s))) :=
  ⟨ρ, w, .inl ⟨x, by simp [hs], hd⟩, .refl hr q⟩

theorem opRuns_step {P : Program} {ρ ρ' : Ren} {w w' : World} {h h' : Hp} {v : AV} {s : Sem Value} {x : Value} (hs : s.run P w = .ok x w') (hd : relS ρ' v x) (st : Step P ρ h w ρ' h' w') : OpRuns P ρ w h h' v (do pure (.value (← s))) :=
  ⟨ρ', w', .inl ⟨x, by simp [hs], hd⟩, st⟩

theorem opRuns_skip {P : Program} {ρ ρ' : Ren} {w w' : World} {h h' : Hp} {s : Sem Unit} (hs : s.run P w = .ok () w') (st : Step P ρ h w ρ' h' w') : OpRuns P ρ w h h' (.tup []) (do s; pure .skip) :=
  ⟨ρ', w', .inr ⟨by simp [hs], rfl⟩, st⟩

theorem val_eq {h h' : Hp} {o : Option AV} {v : AV} (e : val h o = some (v, h')) : o = some v ∧ h' = h := by
  cases o with
  | none => simp [val] at e
  | some x => simp [val] at e; exact ⟨by rw [e.1], e.2.symm⟩

theorem skp_eq {h' : Hp} {o : Option Hp} {v : AV} (e : skp o = some (v, h')) : o = some h' ∧ v = .tup [] := by
  cases o with
  | none => simp [skp] at e
  | some x => simp [skp] at e; exact ⟨by rw [e.2], e.1.symm⟩

theorem builtin_ok {P : Program} {ρ : Ren} {w : World} {b : Builtin} {ts : List TypeId} {args : List AV} {h h' : Hp} {v : AV} (e : builtinA P b ts args h = some (v, h')) :
    Mono h h' ∧ ((∀ p ∈ h'.ob, p) → Fresh ρ h.nxt h.hi → HeapRep P ρ h.heap w → ∀ xs : List Value, RelL ρ args xs → ∀ type consts, OpRuns P ρ w h h' v (builtin b ts.toArray type consts xs.toArray)) := by
  have rel1 : ∀ {x : AV} {xs : List Value}, RelL ρ [x] xs → ∃ X, xs = [X] ∧ relS ρ x X := by
    intro x xs hl
    match xs, hl.1 with
    | [X], _ => obtain ⟨y, hy, h⟩ := hl.2 0 x rfl; simp at hy; subst hy; exact ⟨_, rfl, h⟩
  have rel2 : ∀ {x y : AV} {xs : List Value}, RelL ρ [x, y] xs → ∃ X Y, xs = [X, Y] ∧ relS ρ x X ∧ relS ρ y Y := by
    intro x y xs hl
    match xs, hl.1 with
    | [X, Y], _ =>
      obtain ⟨u, hu, h⟩ := hl.2 0 x rfl; simp at hu; subst hu
      obtain ⟨u', hu', h'⟩ := hl.2 1 y rfl; simp at hu'; subst hu'
      exact ⟨_, _, rfl, h, h'⟩
  have relc : ∀ {x : AV} {r : List AV} {xs : List Value}, RelL ρ (x :: r) xs → ∃ X R, xs = X :: R ∧ relS ρ x X ∧ RelL ρ r R := by
    intro x r xs hl
    match xs, hl.1 with
    | X :: R, h1 =>
      obtain ⟨u, hu, h⟩ := hl.2 0 x rfl; simp at hu; subst hu
      exact ⟨_, _, rfl, h, ⟨by simpa using h1, fun k v hv => by
        obtain ⟨u, hu, hr⟩ := hl.2 (k + 1) v (by simpa using hv)
        exact ⟨u, by simpa using hu, hr⟩⟩⟩
  unfold builtinA at e
  split at e
  · obtain ⟨m, o⟩ := appendE_ok (ρ := ρ) (w := w) e
    refine ⟨m, fun ho hf hr xs hl type consts => ?_⟩
    obtain ⟨X, Y, rfl, hX, hY⟩ := rel2 hl
    obtain ⟨ρ', w', z, r1, r2, r3⟩ := o ho hf hr X Y hX hY type
    exact opRuns_step (s := Builtin.append_ _ type #[X, Y]) r1 (.inr r2) r3
  · split at e
    · rename_i t x _ u hu
      cases e
      refine ⟨.refl _, fun ho hf hr xs hl type consts => ?_⟩
      obtain ⟨X, rfl, hX⟩ := rel1 hl
      obtain ⟨z, hz, hd⟩ := len_ok (w := w) hu hX type
      exact opRuns_val (s := Builtin.len_ _ type #[X]) hz (.inr hd) hr rfl
    · cases e
  · split at e
    · rename_i t x _ u hu
      cases e
      refine ⟨.refl _, fun ho hf hr xs hl type consts => ?_⟩
      obtain ⟨X, rfl, hX⟩ := rel1 hl
      obtain ⟨z, hz, hd⟩ := cap_ok (w := w) hu hX type
      exact opRuns_val (s := Builtin.cap_ _ type #[X]) hz (.inr hd) hr rfl
    · cases e
  · split at e
    · rename_i x r _ u hu
      cases e
      refine ⟨.refl _, fun ho hf hr xs hl type consts => ?_⟩
      obtain ⟨X, R, rfl, hX, hR⟩ := relc hl
      obtain ⟨z, hz, hd⟩ := fold_ok (P := P) (w := w) (fun x y z X Y e hx hy => min2_ok x y z X Y e hx hy) r R x _ X hu hR hX
      exact opRuns_val (s := Builtin.min_ _ type (X :: R).toArray) (by simpa [Builtin.min_] using hz) hd hr rfl
    · cases e
  · split at e
    · rename_i x r _ u hu
      cases e
      refine ⟨.refl _, fun ho hf hr xs hl type consts => ?_⟩
      obtain ⟨X, R, rfl, hX, hR⟩ := relc hl
      obtain ⟨z, hz, hd⟩ := fold_ok (P := P) (w := w) (fun x y z X Y e hx hy => max2_ok x y z X Y e hx hy) r R x _ X hu hR hX
      exact opRuns_val (s := Builtin.max_ _ type (X :: R).toArray) (by simpa [Builtin.max_] using hz) hd hr rfl
    · cases e
  · split at e
    · rename_i t r m k _ h1 hd
      cases e
      obtain ⟨mo, o⟩ := delete_ok (ρ := ρ) (w := w) hd
      refine ⟨mo, fun ho hf hr xs hl type consts => ?_⟩
      obtain ⟨X, Y, rfl, hX, hY⟩ := rel2 hl
      obtain ⟨w', r1, r2⟩ := o hr r type X Y hX hY
      exact opRuns_step (s := Builtin.delete_ _ type #[X, Y]) r1 (.inr (by simp [den, denL])) r2
    · cases e
  · cases e

theorem op1_ok {P : Program} {ρ : Ren} {w : World} {tmps : List AV} {o : Oper} {h h' : Hp} {v : AV} (e : op1 P tmps o.op h = some (v, h')) :
    Mono h h' ∧ ((∀ p ∈ h'.ob, p) → Fresh ρ h.nxt h.hi → HeapRep P ρ h.heap w → GOk ρ → ∀ a : Act, RelL ρ tmps a.tmps.toList → OpRuns P ρ w h h' v (execOp a.eval o)) := by
  obtain ⟨dst, op, type, pos, after, guard⟩ := o
  simp only at e
  unfold op1 at e
  split at e
  -- move, assign
  · have e0 := val_eq e; clear e; obtain ⟨e, rfl⟩ := e0
    exact ⟨.refl _, fun ho hf hr G a hl => ⟨ρ, w, .inl ⟨_, by simp [execOp], evA_ok G e hl⟩, .refl hr rfl⟩⟩
  · have e0 := val_eq e; clear e; obtain ⟨e, rfl⟩ := e0
    exact ⟨.refl _, fun ho hf hr G a hl => ⟨ρ, w, .inl ⟨_, by simp [execOp], evA_ok G e hl⟩, .refl hr rfl⟩⟩
  -- pick
  · split at e
    · rename_i c x y _ _ _ vc vx vy hc hx hy
      split at e
      · rename_i h1 hd
        cases e
        obtain ⟨q, o⟩ := dec_qt hd
        refine ⟨q.mono, fun ho hf hr G a hl => ⟨ρ, w, .inl ⟨_, ?_, evA_ok G hx hl⟩, .refl hr q.heap⟩⟩
        have h2 := evA_ok G hc hl
        have : a.eval c = .bool true := by
          rcases o ho with rfl | rfl <;> (have := relS_den h2 (by simp); simp [den] at this; exact this.symm)
        simp [execOp, this, asBool]
      · rename_i h1 hd
        cases e
        obtain ⟨q, o⟩ := dec_qt hd
        refine ⟨q.mono, fun ho hf hr G a hl => ⟨ρ, w, .inl ⟨_, ?_, evA_ok G hy hl⟩, .refl hr q.heap⟩⟩
        have h2 := evA_ok G hc hl
        have : a.eval c = .bool false := by
          rcases o ho with rfl | rfl <;> (have := relS_den h2 (by simp); simp [den] at this; exact this.symm)
        simp [execOp, this, asBool]
      · cases e
    · cases e
  -- alloc
  · split at e
    · rename_i el _ z hz
      obtain ⟨m, ht, o⟩ := newA_ok (P := P) (ρ := ρ) (w := w) e
      refine ⟨m, fun ho hf hr G a hl => ?_⟩
      obtain ⟨zv, hzr, rfl⟩ := run_zero (w := w) hz
      obtain ⟨ρ', r1, r2, r3⟩ := o hf hr el zv (.inr (ofVal_den ρ zv))
      exact opRuns_step (s := Instr.alloc el true (.tuple #[])) (by simp [Instr.alloc, hzr, r1]) (.inr r2) r3
    · cases e
  -- box
  · split at e
    · rename_i t x _ u hx
      obtain ⟨m, ht, o⟩ := newA_ok (P := P) (ρ := ρ) (w := w) e
      refine ⟨m, fun ho hf hr G a hl => ?_⟩
      obtain ⟨ρ', r1, r2, r3⟩ := o hf hr t _ (evA_ok G hx hl)
      exact opRuns_step (s := Instr.box t _) (by simp [Instr.box, r1]) (.inr r2) r3
    · cases e
  -- build
  · split at e
    · rename_i t ps _ l hp
      have e0 := val_eq e; clear e; obtain ⟨e, rfl⟩ := e0
      refine ⟨.refl _, fun ho hf hr G a hl => ?_⟩
      have hpr := evParts_ok G hl ps.toList l hp
      obtain ⟨x, h1, h2⟩ := build_ok (w := w) (vs := ps.map fun (i, x) => (i, a.eval x)) e (by simpa using hpr)
      exact opRuns_val (s := Instr.build t _) h1 (.inr h2) hr rfl
    · cases e
  -- buildSlice
  · split at e
    · rename_i t n ps _ l hp
      obtain ⟨m, ht, o⟩ := buildSlice_ok (P := P) (ρ := ρ) (w := w) e
      refine ⟨m, fun ho hf hr G a hl => ?_⟩
      have hpr := evParts_ok G hl ps.toList l hp
      obtain ⟨ρ', w', x, h1, h2, h3⟩ := o hf hr (ps.map fun (i, x) => (i, a.eval x)) (by simpa using hpr)
      exact opRuns_step (s := Instr.buildSlice t n _) h1 (.inr h2) h3
    · cases e
  -- load
  · split at e
    · rename_i t x _ u hx
      obtain ⟨q, ht, o⟩ := loadA_ok (P := P) (ρ := ρ) (w := w) e
      refine ⟨q.mono, fun ho hf hr G a hl => ?_⟩
      have h1 := evA_ok G hx hl
      have hu : u ≠ .top := by intro e'; subst e'; simp [loadA] at e
      obtain ⟨y, h2, h3⟩ := o ho hr _ (relS_den h1 hu)
      exact opRuns_val (s := Instr.loadAt t _) h2 (.inr h3) hr q.heap
    · cases e
  -- store
  · split at e
    · rename_i t x y _ _ u v' hx hy
      have e0 := skp_eq e; clear e; obtain ⟨e, rfl⟩ := e0
      obtain ⟨m, o⟩ := storeA_ok (P := P) (ρ := ρ) (w := w) e
      refine ⟨m, fun ho hf hr G a hl => ?_⟩
      obtain ⟨w', h1, h2⟩ := o ho hr _ _ (evA_ok G hx hl) (evA_ok G hy hl)
      exact opRuns_skip (s := Instr.storeAt t _ _) h1 h2
    · cases e
  -- nilCheck
  · split at e
    · rename_i x _ b i j hx
      cases e
      refine ⟨.refl _, fun ho hf hr G a hl => ?_⟩
      have h1 := evA_ok G hx hl
      obtain ⟨L, hL, hnil, h2⟩ := den_ptr (relS_den h1 (by simp))
      exact ⟨ρ, w, .inl ⟨a.eval x, by simp [execOp, h2], h1⟩, .refl hr rfl⟩
    · cases e
  -- binOp
  · split at e
    · rename_i op t x y yt _ _ u v' hx hy
      obtain ⟨q, ht, o⟩ := binE_ok (P := P) (ρ := ρ) (w := w) e
      refine ⟨q.mono, fun ho hf hr G a hl => ?_⟩
      obtain ⟨z, h1, h2⟩ := o ho hr x y _ _ (evA_ok G hx hl) (evA_ok G hy hl)
      exact opRuns_val (s := do eqGuard op t x y (a.eval x) (a.eval y); binOp op t (a.eval x) (a.eval y)) h1 (.inr h2) hr q.heap
    · cases e
  -- unOp
  · split at e
    · rename_i op t x _ u hx
      have e0 := val_eq e; clear e; obtain ⟨e, rfl⟩ := e0
      refine ⟨.refl _, fun ho hf hr G a hl => ?_⟩
      obtain ⟨z, h1, h2⟩ := un_ok (P := P) (w := w) e (evA_ok G hx hl)
      exact opRuns_val (s := Op.unary op _) h1 (.inr h2) hr rfl
    · cases e
  -- convert
  · split at e
    · rename_i src dst' x _ _ u d hx hsrc
      have e0 := val_eq e; clear e; obtain ⟨e, rfl⟩ := e0
      refine ⟨.refl _, fun ho hf hr G a hl => ?_⟩
      obtain ⟨z, h1, h2⟩ := conv_ok (P := P) (w := w) ⟨d, hsrc⟩ e (evA_ok G hx hl)
      exact opRuns_val (s := convert src dst' _) h1 (.inr h2) hr rfl
    · cases e
  -- makeInterface
  · split at e
    · cases e
    · rename_i t x _ _ u d hn hx hu
      split at e
      · rename_i hk
        cases e
        refine ⟨.refl _, fun ho hf hr G a hl => ?_⟩
        have hut : u ≠ .top := by intro e; subst e; simp [AV.known] at hk
        have h1 := relS_den (evA_ok G hx hl) hut
        refine opRuns_val (s := Instr.makeInterface t _) (x := .iface t (a.eval x)) ?_ (.inr (by simp [den, h1])) hr rfl
        simp only [Instr.makeInterface, Sem.run_bind, run_underlying' hu, Result.andThen_ok]
        cases d <;> first | rfl | exact absurd rfl (hn _)
      · cases e
    · cases e
  -- makeFunc
  · split at e
    · rename_i fn first captured _ _ l m hl1 hm1
      split at e
      · rename_i hk1 hk2
        cases e
        refine ⟨.refl _, fun ho hf hr G a hl => ?_⟩
        have h1 := (evAll_ok G hl _ _ hl1).den (allKnown_mem hk1)
        have h2 := (evAll_ok G hl _ _ hm1).den (allKnown_mem hk2)
        refine opRuns_val (s := Instr.makeFunc fn (first.map a.eval) (captured.map a.eval)) (x := .func fn (first.map a.eval) (captured.map a.eval)) (by simp [Instr.makeFunc]) (.inr ?_) hr rfl
        simp only [den, h1, h2]
        congr 1
        congr 1 <;> exact Array.ext' (by simp)
      · cases e
    · cases e
  -- makeMap
  · rename_i t
    obtain ⟨m, ht, o⟩ := makeMap_ok (P := P) (ρ := ρ) (w := w) e
    refine ⟨m, fun ho hf hr G a hl => ?_⟩
    obtain ⟨ρ', w', x, h1, h2, h3⟩ := o hf hr
    exact opRuns_step (s := Instr.makeMap t none) h1 (.inr h2) h3
  -- makeSlice
  · split at e
    · rename_i t x y _ _ u v' hx hy
      obtain ⟨m, ht, o⟩ := makeSliceE_ok (P := P) (ρ := ρ) (w := w) e
      refine ⟨m, fun ho hf hr G a hl => ?_⟩
      obtain ⟨ρ', w', z, h1, h2, h3⟩ := o ho hf hr _ _ (evA_ok G hx hl) (evA_ok G hy hl)
      exact opRuns_step (s := Instr.makeSlice t _ _) h1 (.inr h2) h3
    · cases e
  -- slice
  · split at e
    · rename_i t x lo hi mx _ _ _ _ u lo' hi' mx' hx hlo hhi hmx
      rcases sliceE_cases e with e | ⟨l, r, rfl, rfl, rfl, e2⟩
      · obtain ⟨q, ht, o⟩ := slice_ok (P := P) (ρ := ρ) (w := w) e
        refine ⟨q.mono, fun ho hf hr G a hl => ?_⟩
        obtain ⟨z, h1, h2⟩ := o ho _ _ _ _ (evA_ok G hx hl) (evOpt_ok G hl hlo) (evOpt_ok G hl hhi) (evOpt_ok G hl hmx)
        exact opRuns_val (s := Instr.sliceAt t _ _ _ _) h1 (.inr h2) hr q.heap
      · obtain ⟨m, o⟩ := sliceTail_ok (P := P) (ρ := ρ) (w := w) e2
        refine ⟨hints_mono' m, fun ho hf hr G a hl => ?_⟩
        have elo := evOpt_ok G hl hlo
        have ehi := evOpt_ok G hl hhi
        have emx := evOpt_ok G hl hmx
        cases lo with
        | none => simp [OptRel] at elo
        | some l0 =>
          cases hi with
          | some _ => simp [OptRel] at ehi
          | none =>
            cases mx with
            | some _ => simp [OptRel] at emx
            | none =>
              obtain ⟨ρ', z, h1, h2, h3⟩ := o ho hf hr _ _ (evA_ok G hx hl) elo
              exact opRuns_step (s := Instr.sliceAt t _ (some _) none none) h1 (.inr h2) h3.of_hints
    · cases e
  -- fieldAddr
  · split at e
    · rename_i t x f _ u hx
      have e0 := val_eq e; clear e; obtain ⟨e, rfl⟩ := e0
      refine ⟨.refl _, fun ho hf hr G a hl => ?_⟩
      obtain ⟨z, h1, h2⟩ := fieldAddr_ok (P := P) (w := w) e (evA_ok G hx hl)
      exact opRuns_val (s := Instr.fieldAt t _ f) h1 (.inr h2) hr rfl
    · cases e
  -- field
  · split at e
    · rename_i t x f _ u hx
      have e0 := val_eq e; clear e; obtain ⟨e, rfl⟩ := e0
      refine ⟨.refl _, fun ho hf hr G a hl => ?_⟩
      obtain ⟨z, h1, h2⟩ := field_ok (P := P) (w := w) e (evA_ok G hx hl)
      exact opRuns_val (s := Instr.field t _ f) h1 (.inr h2) hr rfl
    · cases e
  -- indexAddr
  · split at e
    · rename_i t x i _ _ u v' hx hi
      obtain ⟨q, ht, o⟩ := indexAddr_ok (P := P) (ρ := ρ) (w := w) e
      refine ⟨q.mono, fun ho hf hr G a hl => ?_⟩
      obtain ⟨z, h1, h2⟩ := o ho _ _ (evA_ok G hx hl) (evA_ok G hi hl)
      exact opRuns_val (s := Instr.indexAt t _ _) h1 (.inr h2) hr q.heap
    · cases e
  -- index
  · split at e
    · rename_i t x i _ _ u v' hx hi
      obtain ⟨q, o⟩ := index_ok (P := P) (ρ := ρ) (w := w) e
      refine ⟨q.mono, fun ho hf hr G a hl => ?_⟩
      obtain ⟨z, h1, h2⟩ := o ho _ _ (evA_ok G hx hl) (evA_ok G hi hl)
      exact opRuns_val (s := Instr.index t _ _) h1 (.inr h2) hr q.heap
    · cases e
  -- lookup
  · split at e
    · rename_i t m k ok _ _ u v' hx hi
      have e0 := val_eq e; clear e; obtain ⟨e, rfl⟩ := e0
      refine ⟨.refl _, fun ho hf hr G a hl => ?_⟩
      obtain ⟨z, h1, h2⟩ := lookup_ok (P := P) (w := w) e hr (evA_ok G hx hl) (evA_ok G hi hl)
      exact opRuns_val (s := Instr.lookup t _ _ ok) h1 (.inr h2) hr rfl
    · cases e
  -- mapUpdate, insert
  · split at e
    · rename_i t m k x _ _ _ u v' x' hm hk hx
      have e0 := skp_eq e; clear e; obtain ⟨e, rfl⟩ := e0
      obtain ⟨mo, o⟩ := update_ok (P := P) (ρ := ρ) (w := w) e
      refine ⟨mo, fun ho hf hr G a hl => ?_⟩
      obtain ⟨w', h1, h2⟩ := o hr _ _ _ (evA_ok G hm hl) (evA_ok G hk hl) (evA_ok G hx hl)
      exact opRuns_skip (s := Instr.mapUpdate t _ _ _) h1 h2
    · cases e
  · split at e
    · rename_i t m k x _ _ _ u v' x' hm hk hx
      have e0 := skp_eq e; clear e; obtain ⟨e, rfl⟩ := e0
      obtain ⟨mo, o⟩ := update_ok (P := P) (ρ := ρ) (w := w) e
      refine ⟨mo, fun ho hf hr G a hl => ?_⟩
      obtain ⟨w', h1, h2⟩ := o hr _ _ _ (evA_ok G hm hl) (evA_ok G hk hl) (evA_ok G hx hl)
      exact opRuns_skip (s := Instr.mapUpdate t _ _ _) h1 h2
    · cases e
  -- mapEntry, entryStore
  · split at e
    · rename_i t m k _ _ u v' hm hk
      obtain ⟨mo, hne, o⟩ := entryA_ok (P := P) (ρ := ρ) (w := w) e
      refine ⟨mo, fun ho hf hr G a hl => ?_⟩
      obtain ⟨ρ', x, w', h1, h2, h3⟩ := o hf hr _ _ (evA_ok G hm hl) (evA_ok G hk hl)
      exact opRuns_step (s := Instr.mapEntry t _ _) h1 (.inr h2) h3
    · cases e
  · split at e
    · rename_i t m s x _ _ _ u v' x' hm hk hx
      have e0 := skp_eq e; clear e; obtain ⟨e, rfl⟩ := e0
      obtain ⟨mo, o⟩ := entryStoreA_ok (P := P) (ρ := ρ) (w := w) e
      refine ⟨mo, fun ho hf hr G a hl => ?_⟩
      obtain ⟨w', h1, h2⟩ := o hr _ _ _ (evA_ok G hm hl) (evA_ok G hk hl) (evA_ok G hx hl)
      exact opRuns_skip (s := Instr.entryStore t _ _ _) h1 h2
    · cases e
  -- typeAssert
  · rename_i x xt t ok
    split at e
    · cases e
    · rename_i t' u d hn hx hu
      have hkey : GOk ρ → ∀ (a : Act), RelL ρ tmps a.tmps.toList → ∃ y, a.eval x = .iface t' y ∧ den ρ u = some y := by
        intro G a hl
        have := relS_den (evA_ok G hx hl) (by simp)
        simp only [den] at this
        cases hd : den ρ u with
        | none => simp [hd] at this
        | some y => simp only [hd] at this; exact ⟨y, (Option.some.inj this).symm, rfl⟩
      have hund : ∀ {α : Type} (f : TypeDesc → α) (g : α), (∀ ms, d = .interface ms → False) := fun _ _ ms h => hn ms h
      split at e
      · rename_i hb
        cases e
        have hb := Nat.eq_of_beq_eq_true hb; subst hb
        refine ⟨.refl _, fun ho hf hr G a hl => ?_⟩
        obtain ⟨y, h1, h2⟩ := hkey G a hl
        refine opRuns_val (s := Instr.typeAssert (a.eval x) xt t' true) (x := .tuple #[y, .bool true]) ?_ (.inr (by simp [den, denL, h2])) hr rfl
        rw [h1]
        simp only [Instr.typeAssert, Sem.run_bind, run_underlying' hu, Result.andThen_ok]
        cases d <;> first | (simp; done) | exact absurd rfl (hn _)
      · rename_i hb
        cases e
        have hb := Nat.eq_of_beq_eq_true hb; subst hb
        refine ⟨.refl _, fun ho hf hr G a hl => ?_⟩
        obtain ⟨y, h1, h2⟩ := hkey G a hl
        refine opRuns_val (s := Instr.typeAssert (a.eval x) xt t' false) (x := y) ?_ (.inr h2) hr rfl
        rw [h1]
        simp only [Instr.typeAssert, Sem.run_bind, run_underlying' hu, Result.andThen_ok]
        cases d <;> first | (simp; done) | exact absurd rfl (hn _)
      · rename_i hb
        have hb : t' ≠ t := by intro h; subst h; simp at hb
        split at e
        · rename_i z hz
          cases e
          refine ⟨.refl _, fun ho hf hr G a hl => ?_⟩
          obtain ⟨y, h1, h2⟩ := hkey G a hl
          obtain ⟨zv, hzr, rfl⟩ := run_zero (w := w) hz
          refine opRuns_val (s := Instr.typeAssert (a.eval x) xt t true) (x := .tuple #[zv, .bool false]) ?_ (.inr (by simp [den, denL, ofVal_den])) hr rfl
          rw [h1]
          simp only [Instr.typeAssert, Sem.run_bind, run_underlying' hu, Result.andThen_ok]
          cases d <;> first | (simp [hb, hzr]; done) | exact absurd rfl (hn _)
        · cases e
      · cases e
    · rename_i d hn hx hu
      split at e
      · rename_i z hz
        cases e
        refine ⟨.refl _, fun ho hf hr G a hl => ?_⟩
        have h1 : a.eval x = .nilIface := by
          have := relS_den (evA_ok G hx hl) (by simp)
          simp [den] at this; exact this.symm
        obtain ⟨zv, hzr, rfl⟩ := run_zero (w := w) hz
        refine opRuns_val (s := Instr.typeAssert (a.eval x) xt t true) (x := .tuple #[zv, .bool false]) ?_ (.inr (by simp [den, denL, ofVal_den])) hr rfl
        rw [h1]
        simp only [Instr.typeAssert, Sem.run_bind, run_underlying' hu, Result.andThen_ok]
        cases d <;> first | (simp [hzr]; done) | exact absurd rfl (hn _)
      · cases e
    · cases e
  -- extract
  · split at e
    · rename_i x i _ l hx
      have e0 := val_eq e; clear e; obtain ⟨e, rfl⟩ := e0
      refine ⟨.refl _, fun ho hf hr G a hl => ?_⟩
      obtain ⟨xs, hxs, h1⟩ := den_tup (relS_den (evA_ok G hx hl) (by simp))
      rw [nth_eq] at e
      obtain ⟨y, hy, hd⟩ := denL_get _ _ hxs i v e
      exact opRuns_val (s := Instr.extract _ i) (x := y) (by simp [h1, Instr.extract, hy]) (.inr hd) hr rfl
    · cases e
  -- a builtin
  · split at e
    · rename_i b args ts _ l hl1
      obtain ⟨m, o⟩ := builtin_ok (ρ := ρ) (w := w) e
      refine ⟨m, fun ho hf hr G a hl => ?_⟩
      exact o ho hf hr (args.map a.eval).toList (by rw [Array.toList_map]; exact evAll_ok G hl _ _ hl1) type _
    · cases e
  · cases e

end Go.Ev
