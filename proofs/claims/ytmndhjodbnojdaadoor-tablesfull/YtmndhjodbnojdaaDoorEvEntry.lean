/-
  EvEntry and what follows it.
-/
import Derived.Test.YtmndhjodbnojdaaDoorEvOps2
import Derived.Test.YtmndhjodbnojdaaDoorEvApp
import Derived.Scope
import Derived.Test.YtmndhjodbnojdaaDoorEvRen
/-
  Map entries as operations of their own.
-/
set_option linter.unusedSimpArgs false
set_option linter.unusedVariables false
namespace Go.Ev
theorem set_twice {α : Type} : ∀ (l : List (Nat × α)) (k : Nat) (x y : α), set (set l k x) k y = set l k y
  | [], k, x, y => by simp [set]
  | (n, z) :: r, k, x, y => by
    simp only [set]
    split
    · rename_i h; simp [set, h]
    · rename_i h; simp only [set, h, set_twice r k x y]

theorem entry_run {P : Program} {ρ : Ren} {w : World} {t : TypeId} {key : AV} {h : Hp} {ks : List CK} {agg : Bool} {vk : IntKind} {b : Nat} {k : List Int} {f : List Int → Option Int} {z0 : Bool} (hmk : mapKinds P t = some (ks, agg, vk)) (hz : zeroOk P t vk = some z0)
    (hk : keyOf ks agg key = some k) (hg : get h.heap b = some (.map t f)) (hr : HeapRep P ρ h.heap w) {M K : Value} (hM : relS ρ (.map b) M) (hK : relS ρ key K) :
    ∃ L s w1, ρ b = some L ∧ M = .map (some L.blk) ∧ keyWf ks k ∧ (Instr.mapEntry t M K).run P w = .ok (.tuple #[.int vk (mval f k), goInt (s : Nat)]) w1 ∧
      Step P ρ h w ρ (h.put b (.map t (setKey f k (some (mval f k))))) w1 ∧ ∃ es c, w1.heap[L.blk]? = some (.map es c) ∧ ∃ e, e ∈ es.toList ∧ e.key = keyVal ks agg k ∧ e.born = s := by
  have hu : updateA P t (.map b) key (.sym vk (mval f k)) h = some (h.put b (.map t (setKey f k (some (mval f k))))) := by
    simp [updateA, hmk, asI, hk, hg]
  obtain ⟨w', hrun, st⟩ := (update_ok (ρ := ρ) (w := w) hu).2 hr M K (.int vk (mval f k)) hM hK (.inr rfl)
  obtain ⟨kt, et, ty⟩ := mapKinds_ty hmk
  obtain ⟨rfl, hw⟩ := keyOf_den ty hk hK
  have hd := relS_den hM (by simp)
  simp only [den] at hd
  cases hb : ρ b with
  | none => simp [hb] at hd
  | some L =>
    simp only [hb] at hd; cases hd
    obtain ⟨h0, h1, ks', agg', vk', hmk', es, clock, hblk, hbo, kl, hes, hnd, hkw, hf⟩ := hr.obj hg hb
    rw [hmk] at hmk'; cases hmk'
    have hlt : L.blk < w.heap.size := (Array.getElem?_eq_some_iff.1 hblk).1
    have hfind := findKey_ok (w := w) ty hw hes hkw
    have hget : (getObj L.blk).run P w = .ok (.map es clock) w := by simp [getObj, Sem.run, hblk]
    have hchk := checkKey_ok (w := w) ty hw false
    have hzr := zero_run (w := w) ty hz
    have hfk : f k = (findK k kl 0).map (·.2) := by rw [hf k hw, findK_find]
    cases hfo : findK k kl 0 with
    | none =>
      rw [hfo] at hfind hfk
      simp at hfk
      have hmv : mval f k = 0 := by simp [mval, hfk]
      rw [hmv] at hrun st ⊢
      have hW : (Instr.mapUpdate t (.map (some L.blk)) (keyVal ks agg k) (.int vk 0)).run P w = .ok () { w with heap := w.heap.setIfInBounds L.blk (.map (es.push { key := keyVal ks agg k, val := .int vk 0, born := clock }) (clock + 1)) } := by
        simp [Instr.mapUpdate, run_underlying' ty.map, hget, hchk, hfind, run_setObj _ hblk]
      rw [hW] at hrun; cases hrun
      refine ⟨L, clock, _, rfl, rfl, hw, ?_, st, es.push { key := keyVal ks agg k, val := .int vk 0, born := clock }, clock + 1, by simp [hlt], { key := keyVal ks agg k, val := .int vk 0, born := clock }, by simp, rfl, rfl⟩
      simp [Instr.mapEntry, run_underlying' ty.map, hget, hchk, hfind, hzr, run_setObj _ hblk]
    | some p =>
      obtain ⟨i, n0⟩ := p
      rw [hfo] at hfind hfk
      simp at hfk
      have hmv : mval f k = n0 := by simp [mval, hfk]
      rw [hmv] at hrun st ⊢
      obtain ⟨_, hi⟩ := findK_some kl 0 i n0 hfo
      simp only [Nat.sub_zero] at hi
      have hi2 : (es.toList.map (fun e => (e.key, e.val)))[i]? = some (keyVal ks agg k, .int vk n0) := by rw [hes]; simp [hi]
      simp only [List.getElem?_map] at hi2
      cases hei : es.toList[i]? with
      | none => simp [hei] at hi2
      | some e0 =>
        simp [hei] at hi2
        have hei' : es[i]? = some e0 := by simpa using hei
        have hilt : i < es.size := (Array.getElem?_eq_some_iff.1 hei').1
        have hstay : (Instr.keyThatStays (((es[i]?).map (·.key)).getD (keyVal ks agg k)) (keyVal ks agg k)).run P w = .ok (keyVal ks agg k) w := by
          simp [Instr.keyThatStays, hei', hi2.1, sameBits_key ty hw]
        have hW : (Instr.mapUpdate t (.map (some L.blk)) (keyVal ks agg k) (.int vk n0)).run P w = .ok () { w with heap := w.heap.setIfInBounds L.blk (.map (es.modify i fun e => { e with key := keyVal ks agg k, val := .int vk n0 }) clock) } := by
          simp only [Instr.mapUpdate, Sem.run_bind, run_underlying' ty.map, Result.andThen_ok, hget, hchk, hfind, Option.map_some, hstay, run_setObj _ hblk]
        rw [hW] at hrun; cases hrun
        have hmod : (es.modify i fun e => { e with key := keyVal ks agg k }) = es.modify i fun e => { e with key := keyVal ks agg k, val := .int vk n0 } := by
          apply Array.ext_getElem?
          intro j
          simp only [Array.getElem?_modify]
          by_cases hj : i = j
          · subst hj; simp [hei', ← hi2.2]
          · simp [hj]
        refine ⟨L, e0.born, _, rfl, rfl, hw, ?_, st, es.modify i fun e => { e with key := keyVal ks agg k, val := .int vk n0 }, clock, by simp [hlt], { e0 with key := keyVal ks agg k, val := .int vk n0 }, ?_, rfl, rfl⟩
        · simp only [Instr.mapEntry, Sem.run_bind, run_underlying' ty.map, Result.andThen_ok, hget, hchk, hfind, Option.map_some, hstay, run_setObj _ hblk, Sem.run_pure, hmod]
          simp [hei']
        · refine List.mem_of_getElem? (i := i) ?_
          simp [Array.getElem?_modify, hei']

theorem add_twice (b : Nat) (l : List Nat) : add b (add b l) = add b l := by
  have : mem b (add b l) = true := (mem_iff b _).2 (mem_add.2 (.inl rfl))
  rw [add, this]

theorem entryA_ok {P : Program} {ρ : Ren} {w : World} {t : TypeId} {m key r : AV} {h h' : Hp} (e : entryA P t m key h = some (r, h')) :
    Mono h h' ∧ r ≠ .top ∧ (Fresh ρ h.nxt h.hi → HeapRep P ρ h.heap w → ∀ M K, relS ρ m M → relS ρ key K → ∃ ρ' x w', (Instr.mapEntry t M K).run P w = .ok x w' ∧ den ρ' r = some x ∧ Step P ρ h w ρ' h' w') := by
  unfold entryA at e
  split at e
  · rename_i ks agg vk b hmk
    split at e
    · rename_i z0 k t' f hz hk hg hlt
      split at e
      · rename_i htt
        have htt := Nat.eq_of_beq_eq_true htt; subst htt
        have hlt : h.nxt < h.hi := by simpa [Nat.blt_eq] using hlt
        cases e
        refine ⟨⟨fun p x => x, Nat.le_succ _, rfl, fun n x => mem_add.2 (.inr x)⟩, by simp, fun hf hr M K hM hK => ?_⟩
        obtain ⟨L, s, w1, hb, rfl, hw, hrun, st, es, c, hblk, e0, he1, he2, he3⟩ := entry_run hmk hz hk hg hr hM hK
        let f1 := setKey f k (some (mval f k))
        let h1 := h.put b (.map t f1)
        let ls : Loc := ⟨s, 0, 0, 0, false⟩
        have st2 := name_step (h := h1) st.rep hf hlt ls rfl
        have hn : ρ h.nxt = none := hf _ (Nat.le_refl _) hlt
        have hbn : b ≠ h.nxt := fun x => by rw [x, hn] at hb; cases hb
        have hb' : (ρ.set h.nxt ls) b = some L := by rw [Ren.set_ne hbn]; exact hb
        have hg1 : get h1.heap b = some (.map t f1) := by simp [h1, Hp.put, get_set]
        obtain ⟨l', hl', ho⟩ := st2.rep.1 b _ hg1
        rw [show (ρ.set h1.nxt ls) = ρ.set h.nxt ls from rfl, hb'] at hl'; cases hl'
        obtain ⟨h0, hc, ks', agg', vk', hmk', es', clock, hblk', hbo, hm⟩ := ho
        rw [hmk] at hmk'; cases hmk'
        rw [hblk] at hblk'; cases hblk'
        have st3 := put_step (h := { h1 with nxt := h1.nxt + 1 }) (w' := w1) (o' := .mapP t f1 h.nxt k) st2.rep hg1 rfl rfl hb' hc (fun _ _ => rfl) (Nat.le_refl _) rfl rfl rfl
          ⟨h0, hc, ks, agg, vk, hmk, hw, es, c, hblk, hbo, hm, ls, e0, Ren.set_same _ _ _, he1, he2, he3⟩
        have m1 : Mono h h1 := put_mono _ _ _
        have m2 : Mono h1 { h1 with nxt := h1.nxt + 1 } := ⟨fun p x => x, Nat.le_succ _, rfl, fun n x => x⟩
        have st4 := (st.trans st2 m1 m2).trans st3 (m1.trans m2) (put_mono _ _ _)
        refine ⟨ρ.set h.nxt ls, _, w1, hrun, ?_, ?_⟩
        · simp [den, denL, Ren.set_same, ls]
        · have : ({ h1 with nxt := h1.nxt + 1 } : Hp).put b (.mapP t f1 h.nxt k) = { (h.put b (.mapP t f1 h.nxt k)) with nxt := h.nxt + 1 } := by
            simp [h1, Hp.put, set_twice, add_twice]
          rw [this] at st4
          exact st4
      · cases e
    · cases e
  · cases e

theorem keyCells_inj : ∀ (ks : List CK) (l l' : List Int), keyWf ks l → keyWf ks l' → keyCells ks l = keyCells ks l' → l = l'
  | [], [], [], _, _, _ => rfl
  | [], _ :: _, _, h, _, _ => by simp [keyWf] at h
  | [], [], _ :: _, _, h, _ => by simp [keyWf] at h
  | .int _ :: _, [], _, h, _, _ => by simp [keyWf] at h
  | .int _ :: _, _ :: _, [], _, h, _ => by simp [keyWf] at h
  | .bool :: _, [], _, h, _, _ => by simp [keyWf] at h
  | .bool :: _, _ :: _, [], _, h, _ => by simp [keyWf] at h
  | .val :: _, [], _, h, _, _ => by simp [keyWf] at h
  | .val :: _, _ :: _, _, h, _, _ => by simp [keyWf] at h
  | .int k :: ks, n :: ns, n' :: ns', h, h', e => by
    simp only [keyCells, cellKey, List.cons.injEq, Value.int.injEq, true_and] at e
    rw [e.1, keyCells_inj ks ns ns' h h' e.2]
  | .bool :: ks, n :: ns, n' :: ns', h, h', e => by
    simp only [keyCells, cellKey, List.cons.injEq, Value.bool.injEq] at e
    rw [keyCells_inj ks ns ns' h.2 h'.2 e.2]
    have : n = n' := by
      rcases h.1 with rfl | rfl <;> rcases h'.1 with rfl | rfl <;> simp at e <;> rfl
    rw [this]

theorem keyVal_inj {P : Program} {t kt et : TypeId} {ks : List CK} {agg : Bool} {vk : IntKind} (ty : MapTy P t ks agg vk kt et) {k k' : List Int} (h : keyWf ks k) (h' : keyWf ks k') (e : keyVal ks agg k = keyVal ks agg k') : k = k' := by
  rcases ty.key with ⟨kk, hu, rfl, rfl⟩ | ⟨fs, hu, rfl, hs, hl⟩
  · match k, k', h, h' with
    | [m], [m'], _, _ => simpa [keyVal, keyCells, cellKey] using e
    | [], _, h, _ => simp [keyWf] at h
    | _ :: _ :: _, _, h, _ => simp [keyWf] at h
    | [_], [], _, h => simp [keyWf] at h
    | [_], _ :: _ :: _, _, h => simp [keyWf] at h
  · exact keyCells_inj ks k k' h h' (by simpa [keyVal] using e)

/-- An entry's value is set: what the map says then. -/
theorem rep_set {ks : List CK} {agg : Bool} {vk : IntKind} {es : Array MapEntry} {f : List Int → Option Int} {kl : List (List Int × Int)} {i : Nat} {k : List Int} {n0 n : Int} {e0 : MapEntry}
    (hes : es.toList.map (fun e => (e.key, e.val)) = kl.map (fun x => (keyVal ks agg x.1, Value.int vk x.2))) (hnd : (kl.map (·.1)).Nodup) (hkw : ∀ x ∈ kl, keyWf ks x.1) (hf : ∀ k, keyWf ks k → f k = (kl.find? (fun x => x.1 == k)).map (·.2))
    (hi : kl[i]? = some (k, n0)) (hei : es[i]? = some e0) (hek : e0.key = keyVal ks agg k) : MapRep ks agg vk (es.modify i fun e => { e with val := .int vk n }).toList (setKey f k (some n)) := by
  have hw : keyWf ks k := hkw (k, n0) (List.mem_of_getElem? hi)
  have hkl : ∀ (j : Nat), (kl.modify i (fun x => (k, n)))[j]? = if j = i then some (k, n) else kl[j]? := by
    intro j
    rw [List.getElem?_modify]
    by_cases hj : j = i
    · subst hj; simp [hi]
    · simp [hj, Ne.symm hj]
  have hfst : (kl.modify i (fun x => (k, n))).map (·.1) = kl.map (·.1) := by
    refine List.ext_getElem? fun j => ?_
    rw [List.getElem?_map, hkl, List.getElem?_map]
    by_cases hj : j = i
    · subst hj; simp [hi]
    · simp [hj]
  refine ⟨kl.modify i (fun x => (k, n)), ?_, by rw [hfst]; exact hnd, ?_, fun k' hk' => ?_⟩
  · refine List.ext_getElem? fun j => ?_
    have hj0 : (es.toList.map (fun e => (e.key, e.val)))[j]? = (kl.map (fun x => (keyVal ks agg x.1, Value.int vk x.2)))[j]? := by rw [hes]
    simp only [List.getElem?_map] at hj0 ⊢
    rw [hkl, Array.getElem?_toList, Array.getElem?_modify]
    by_cases hj : j = i
    · subst hj; simp [hei, hek]
    · simp only [hj, if_false, Ne.symm hj]
      simpa using hj0
  · intro x hx
    obtain ⟨j, hj⟩ := List.mem_iff_getElem?.1 hx
    rw [hkl] at hj
    split at hj
    · cases hj; exact hw
    · exact hkw x (List.mem_of_getElem? hj)
  · simp only [setKey]
    by_cases hkk : k' = k
    · subst hkk
      rw [if_pos rfl, find_map_eq (i := i) (n := n) (by rw [hfst]; exact hnd) (by rw [hkl, if_pos rfl])]
      rfl
    · rw [if_neg hkk, hf k' hk']
      cases hfk : kl.find? (fun x => x.1 == k') with
      | none =>
        have : (kl.modify i (fun x => (k, n))).find? (fun x => x.1 == k') = none := by
          rw [List.find?_eq_none] at hfk ⊢
          intro x hx
          obtain ⟨j, hj⟩ := List.mem_iff_getElem?.1 hx
          rw [hkl] at hj
          split at hj
          · cases hj; simpa using Ne.symm hkk
          · exact hfk x (List.mem_of_getElem? hj)
        rw [this]
      | some x =>
        have hx := List.find?_some hfk
        have hx1 : x.1 = k' := by simpa using hx
        obtain ⟨j, hj⟩ := List.mem_iff_getElem?.1 (List.mem_of_find?_eq_some hfk)
        have hji : j ≠ i := by
          intro e; subst e; rw [hi] at hj; cases hj; exact hkk hx1.symm
        obtain ⟨x1, x2⟩ := x
        simp only at hx1; subst hx1
        rw [find_map_eq (i := j) (n := x2) (by rw [hfst]; exact hnd) (by rw [hkl, if_neg hji]; exact hj)]

theorem entryStoreA_ok {P : Program} {ρ : Ren} {w : World} {t : TypeId} {m s v : AV} {h h' : Hp} (e : entryStoreA P t m s v h = some h') :
    Mono h h' ∧ (HeapRep P ρ h.heap w → ∀ M S V, relS ρ m M → relS ρ s S → relS ρ v V → ∃ w', (Instr.entryStore t M S V).run P w = .ok () w' ∧ Step P ρ h w ρ h' w') := by
  unfold entryStoreA at e
  split at e
  · rename_i ks agg vk b n vk' c x hmk hv
    split at e
    · rename_i t' f n' k hg hvk
      split at e
      · rename_i htt hnn
        have htt := Nat.eq_of_beq_eq_true htt; subst htt
        have hnn := Nat.eq_of_beq_eq_true hnn; subst hnn
        have hvk := of_decide_eq_true hvk; subst hvk
        cases e
        refine ⟨put_mono _ _ _, fun hr M S V hM hS hV => ?_⟩
        obtain ⟨kt, et, ty⟩ := mapKinds_ty hmk
        obtain ⟨hv1, hv2⟩ := asI_den (ρ := ρ) hv
        have := relS_den hV hv2; rw [hv1] at this; cases this
        obtain ⟨L, hb, h0, hc, ks', agg', vk', hmk', hw, es, clock, hblk, hbo, hm, ls, e0, hls, hmem, hek, heb⟩ := hr.1 b _ hg
        rw [hmk] at hmk'; cases hmk'
        have hd := relS_den hM (by simp)
        simp only [den, hb] at hd; cases hd
        have hs := relS_den hS (by simp)
        simp only [den, hls] at hs; cases hs
        have hlt : L.blk < w.heap.size := (Array.getElem?_eq_some_iff.1 hblk).1
        obtain ⟨kl, hes, hnd, hkw, hf⟩ := hm
        obtain ⟨i, hei⟩ := List.mem_iff_getElem?.1 hmem
        have hei' : es[i]? = some e0 := by simpa using hei
        have hilt : i < es.size := (Array.getElem?_eq_some_iff.1 hei').1
        have hei2 : es[i] = e0 := (Array.getElem?_eq_some_iff.1 hei').2
        have hi2 : (es.toList.map (fun e => (e.key, e.val)))[i]? = some (e0.key, e0.val) := by simp [hei']
        rw [hes, List.getElem?_map] at hi2
        cases hki : kl[i]? with
        | none => simp [hki] at hi2
        | some p =>
          obtain ⟨k1, n0⟩ := p
          simp [hki] at hi2
          have hk1 : k1 = k := keyVal_inj ty (hkw _ (List.mem_of_getElem? hki)) hw (hi2.1.trans hek)
          subst hk1
          have hidx : es.findIdx? (fun e => (e.born : Int) == (ls.blk : Int)) = some i := by
            rw [Array.findIdx?_eq_some_iff_getElem]
            refine ⟨hilt, by rw [hei2, heb]; simp, fun j hj => ?_⟩
            have hjs : j < es.size := by omega
            simp only [beq_iff_eq, Int.natCast_inj]
            intro hbe
            have q1 : (es.toList.map (·.born))[j]? = some es[j].born := by simp [hjs]
            have q2 : (es.toList.map (·.born))[i]? = some es[j].born := by rw [List.getElem?_map, hei]; simp [hbe, heb]
            have := (List.getElem?_inj (List.getElem?_eq_some_iff.1 q1).1 hbo.2).1 (q1.trans q2.symm)
            omega
          have hget : (getObj L.blk).run P w = .ok (.map es clock) w := by simp [getObj, Sem.run, hblk]
          refine ⟨{ w with heap := w.heap.setIfInBounds L.blk (.map (es.modify i fun e => { e with val := .int vk x }) clock) }, ?_, ?_⟩
          · simp only [Instr.entryStore, Sem.run_bind, Result.andThen_ok, hget, asInt, asIntOf, goInt, Sem.run_pure, hidx, run_setObj _ hblk]
          · exact put_step hr hg rfl rfl hb hc (fun q hq => by simp [Array.getElem?_setIfInBounds_ne (Ne.symm hq)]) (by simp) rfl rfl rfl
              ⟨h0, hc, ks, agg, vk, hmk, es.modify i fun e => { e with val := .int vk x }, clock, by simp [hlt], born_modify hbo (fun _ => rfl), rep_set hes hnd hkw hf hki hei' hek⟩
      · cases e
    · cases e
  · cases e
end Go.Ev

/-
  An operation that calls no Go function: the soundness of the evaluator, ninth part.
-/
set_option linter.unusedSimpArgs false
set_option linter.unusedVariables false
namespace Go.Ev

theorem evA_ok {ρ : Ren} (G : GOk ρ) {tmps : List AV} {x : Operand} {v : AV} (e : evA tmps x = some v) {a : Act} (hr : RelL ρ tmps a.tmps.toList) : relS ρ v (a.eval x) := by
  cases x with
  | tmp t =>
    simp only [evA, nth_eq] at e
    obtain ⟨y, hy, h⟩ := hr.2 t v e
    simp only [Array.getElem?_toList] at hy
    simp only [Act.eval, Array.getD_eq_getD_getElem?, hy, Option.getD_some]
    exact h
  | const c => simp only [evA] at e; cases e; exact .inr (ofVal_den ρ c)
  | global g =>
    simp only [evA] at e; cases e
    obtain ⟨l, hl, h1, h2, h3⟩ := G g
    exact .inr (by simp [den, hl, h1, h2, h3, Act.eval])
  | func f => simp only [evA] at e; cases e; exact .inr (by simp [den, denL, Act.eval])

theorem evAll_ok {ρ : Ren} (G : GOk ρ) {tmps : List AV} {a : Act} (hr : RelL ρ tmps a.tmps.toList) : ∀ (xs : List Operand) (l : List AV), evAll tmps xs = some l → RelL ρ l (xs.map a.eval)
  | [], l, e => by simp [evAll] at e; subst e; exact ⟨rfl, by simp⟩
  | x :: r, l, e => by
    simp only [evAll] at e
    split at e
    · cases e
    rename_i v hv
    split at e
    · cases e
    rename_i l' hl
    cases e
    have ih := evAll_ok G hr r l' hl
    refine ⟨by simp [ih.1], fun k u hk => ?_⟩
    cases k with
    | zero => simp at hk; subst hk; exact ⟨a.eval x, by simp, evA_ok G hv hr⟩
    | succ k =>
      simp at hk
      obtain ⟨y, hy, h⟩ := ih.2 k u hk
      exact ⟨y, by simpa using hy, h⟩

theorem partOk_known {v : AV} (h : v.partOk = true) : v ≠ .top := by intro e; subst e; simp [AV.partOk, AV.oneCell] at h

theorem evParts_ok {ρ : Ren} (G : GOk ρ) {tmps : List AV} {a : Act} (hr : RelL ρ tmps a.tmps.toList) : ∀ (xs : List (Nat × Operand)) (l : List (Nat × AV)), evParts tmps xs = some l → PartsRel ρ l (xs.map fun (i, x) => (i, a.eval x))
  | [], l, e => by simp [evParts] at e; subst e; exact ⟨rfl, by simp⟩
  | (i, x) :: r, l, e => by
    simp only [evParts] at e
    split at e
    · cases e
    rename_i v hv
    split at e
    · rename_i l' hp hl
      cases e
      have ih := evParts_ok G hr r l' hl
      refine ⟨by simp [ih.1], fun k j u hk => ?_⟩
      cases k with
      | zero => simp at hk; obtain ⟨rfl, rfl⟩ := hk; exact ⟨hp, a.eval x, by simp, relS_den (evA_ok G hv hr) (partOk_known hp)⟩
      | succ k =>
        simp at hk
        obtain ⟨p, y, hy, h⟩ := ih.2 k j u hk
        exact ⟨p, y, by simpa using hy, h⟩
    · cases e

theorem evOpt_ok {ρ : Ren} (G : GOk ρ) {tmps : List AV} {a : Act} (hr : RelL ρ tmps a.tmps.toList) {x : Option Operand} {v : Option AV} (e : evOpt tmps x = some v) : OptRel ρ v (x.map a.eval) := by
  cases x with
  | none => simp [evOpt] at e; subst e; trivial
  | some x =>
    simp only [evOpt] at e
    split at e
    · cases e
    · rename_i u hu; cases e; exact evA_ok G hu hr

/-! ### small ones -/
theorem len_ok {P : Program} {ρ : Ren} {w : World} {t : TypeId} {x r : AV} {X : Value} (e : lenA P t x = some r) (hx : relS ρ x X) (a : TypeId) : ∃ z, (Builtin.len_ #[t] a #[X]).run P w = .ok z w ∧ den ρ r = some z := by
  unfold lenA at e
  split at e
  · rename_i el hu; cases e
    have := relS_den hx (by simp); simp [den] at this; subst this
    exact ⟨_, by simp [Builtin.len_, run_underlying' hu]; rfl, by simp [den, goInt]⟩
  · rename_i el wd b off n c hu; cases e
    obtain ⟨L, _, _, _, _, _, rfl⟩ := den_xs (relS_den hx (by simp))
    exact ⟨_, by simp [Builtin.len_, run_underlying' hu]; rfl, by simp [den, goInt]⟩
  · rename_i el wd b off n c hu; cases e
    obtain ⟨L, _, _, ⟨_, _, rfl, _, rfl⟩ | ⟨_, _, _, rfl⟩⟩ := den_ss (relS_den hx (by simp))
    · exact ⟨_, by simp [Builtin.len_, run_underlying' hu]; rfl, by simp [den, goInt]⟩
    · exact ⟨_, by simp [Builtin.len_, run_underlying' hu]; rfl, by simp [den, goInt]⟩
  · rename_i n el hu; cases e
    exact ⟨_, by simp [Builtin.len_, run_underlying' hu]; rfl, by simp [den, goInt]⟩
  · cases e

theorem cap_ok {P : Program} {ρ : Ren} {w : World} {t : TypeId} {x r : AV} {X : Value} (e : capA P t x = some r) (hx : relS ρ x X) (a : TypeId) : ∃ z, (Builtin.cap_ #[t] a #[X]).run P w = .ok z w ∧ den ρ r = some z := by
  unfold capA at e
  split at e
  · rename_i el hu; cases e
    have := relS_den hx (by simp); simp [den] at this; subst this
    exact ⟨_, by simp [Builtin.cap_, run_underlying' hu]; rfl, by simp [den, goInt]⟩
  · rename_i el wd b off n c hu; cases e
    obtain ⟨L, _, _, _, _, _, rfl⟩ := den_xs (relS_den hx (by simp))
    exact ⟨_, by simp [Builtin.cap_, run_underlying' hu]; rfl, by simp [den, goInt, capOr]⟩
  · rename_i el wd b off n c hu; cases e
    obtain ⟨L, _, _, ⟨_, _, _, h0, rfl⟩ | ⟨_, _, _, rfl⟩⟩ := den_ss (relS_den hx (by simp))
    · simp [capOr] at h0; subst h0
      exact ⟨_, by simp [Builtin.cap_, run_underlying' hu]; rfl, by simp [den, goInt]⟩
    · exact ⟨_, by simp [Builtin.cap_, run_underlying' hu]; rfl, by simp [den, goInt, capOr]⟩
  · cases e

theorem fold_ok {P : Program} {ρ : Ren} {w : World} {f : AV → AV → Option AV} {g : Value → Value → Sem Value} (hfg : ∀ x y z X Y, f x y = some z → relS ρ x X → relS ρ y Y → ∃ Z, (g X Y).run P w = .ok Z w ∧ relS ρ z Z) :
    ∀ (l : List AV) (xs : List Value) (x r : AV) (X : Value), foldA f x l = some r → RelL ρ l xs → relS ρ x X → ∃ Z, (xs.foldlM g X).run P w = .ok Z w ∧ relS ρ r Z
  | [], xs, x, r, X, e, hl, hx => by
    simp only [foldA] at e; cases e
    have : xs = [] := by have := hl.1; simpa using this.symm
    subst this
    exact ⟨X, by simp, hx⟩
  | y :: l, xs, x, r, X, e, hl, hx => by
    simp only [foldA] at e
    split at e
    · rename_i z hz
      obtain ⟨Y, hY, hry⟩ := hl.2 0 y (by simp)
      match xs, hY with
      | Y' :: xs', hY =>
        simp at hY; subst hY
        obtain ⟨Z, hZ, hrz⟩ := hfg x y z X Y' hz hx hry
        obtain ⟨Z', hZ', hr'⟩ := fold_ok hfg l xs' z r Z e ⟨by simpa using hl.1, fun k v hv => by
          obtain ⟨u, hu, hr⟩ := hl.2 (k + 1) v (by simpa using hv)
          exact ⟨u, by simpa using hu, hr⟩⟩ hrz
        exact ⟨Z', by simp [List.foldlM_cons, hZ, hZ'], hr'⟩
    · cases e

theorem min2_ok {P : Program} {ρ : Ren} {w : World} (x y z : AV) (X Y : Value) (e : min2A x y = some z) (hx : relS ρ x X) (hy : relS ρ y Y) : ∃ Z, (Builtin.min2 X Y).run P w = .ok Z w ∧ relS ρ z Z := by
  unfold min2A at e
  split at e
  · rename_i k c a k' d b h1 h2
    cases e
    obtain ⟨d1, t1⟩ := asI_den (ρ := ρ) h1
    obtain ⟨d2, t2⟩ := asI_den (ρ := ρ) h2
    have := relS_den hx t1; rw [d1] at this; cases this
    have := relS_den hy t2; rw [d2] at this; cases this
    exact ⟨_, by simp [Builtin.min2], .inr mkI_den⟩
  · cases e

theorem max2_ok {P : Program} {ρ : Ren} {w : World} (x y z : AV) (X Y : Value) (e : max2A x y = some z) (hx : relS ρ x X) (hy : relS ρ y Y) : ∃ Z, (Builtin.max2 X Y).run P w = .ok Z w ∧ relS ρ z Z := by
  unfold max2A at e
  split at e
  · rename_i k c a k' d b h1 h2
    cases e
    obtain ⟨d1, t1⟩ := asI_den (ρ := ρ) h1
    obtain ⟨d2, t2⟩ := asI_den (ρ := ρ) h2
    have := relS_den hx t1; rw [d1] at this; cases this
    have := relS_den hy t2; rw [d2] at this; cases this
    exact ⟨_, by simp [Builtin.max2], .inr mkI_den⟩
  · cases e

/-! ### the operation -/
/-- What an operation does, said of the machine's. -/
def OpRuns (P : Program) (ρ : Ren) (w : World) (h h' : Hp) (v : AV) (s : Sem Next) : Prop :=
  ∃ ρ' w', ((∃ x, s.run P w = .ok (.value x) w' ∧ relS ρ' v x) ∨ (s.run P w = .ok .skip w' ∧ v = .tup [])) ∧ Step P ρ h w ρ' h' w'

theorem opRuns_val {P : Program} {ρ : Ren} {w : World} {h h' : Hp} {v : AV} {s : Sem Value} {x : Value} (hs : s.run P w = .ok x w) (hd : relS ρ v x) (hr : HeapRep P ρ h.heap w) (q : h'.heap = h.heap) : OpRuns P ρ w h h' v (do pure (.value (← s))) :=
  ⟨ρ, w, .inl ⟨x, by simp [hs], hd⟩, .refl hr q⟩

theorem opRuns_step {P : Program} {ρ ρ' : Ren} {w w' : World} {h h' : Hp} {v : AV} {s : Sem Value} {x : Value} (hs : s.run P w = .ok x w') (hd : relS ρ' v x) (st : Step P ρ h w ρ' h' w') : OpRuns P ρ w h h' v (do pure (.value (← s))) :=
  ⟨ρ', w', .inl ⟨x, by simp [hs], hd⟩, st⟩

theorem opRuns_skip {P : Program} {ρ ρ' : Ren} {w w' : World} {h h' : Hp} {s : Sem Unit} (hs : s.run P w = .ok () w') (st : Step P ρ h w ρ' h' w') : OpRuns P ρ w h h' (.tup []) (do s; pure .skip) :=
  ⟨ρ', w', .inr ⟨by simp [hs], rfl⟩, st⟩

theorem val_eq {h h' : Hp} {o : Option AV} {v : AV} (e : val h o = some (v, h')) : o = some v ∧ h' = h := by
  cases o with
  | none => simp [val] at e
  | some x => simp [val] at e; exact ⟨by rw [e.1], e.2.symm⟩

theorem skp_eq {h' : Hp} {o : Option Hp} {v : AV} (e : skp o = some (v, h')) : o = some h' ∧ v = .tup [] := by
  cases o with
  | none => simp [skp] at e
  | some x => simp [skp] at e; exact ⟨by rw [e.2], e.1.symm⟩

theorem builtin_ok {P : Program} {ρ : Ren} {w : World} {b : Builtin} {ts : List TypeId} {args : List AV} {h h' : Hp} {v : AV} (e : builtinA P b ts args h = some (v, h')) :
    Mono h h' ∧ ((∀ p ∈ h'.ob, p) → Fresh ρ h.nxt h.hi → HeapRep P ρ h.heap w → ∀ xs : List Value, RelL ρ args xs → ∀ type consts, OpRuns P ρ w h h' v (builtin b ts.toArray type consts xs.toArray)) := by
  have rel1 : ∀ {x : AV} {xs : List Value}, RelL ρ [x] xs → ∃ X, xs = [X] ∧ relS ρ x X := by
    intro x xs hl
    match xs, hl.1 with
    | [X], _ => obtain ⟨y, hy, h⟩ := hl.2 0 x rfl; simp at hy; subst hy; exact ⟨_, rfl, h⟩
  have rel2 : ∀ {x y : AV} {xs : List Value}, RelL ρ [x, y] xs → ∃ X Y, xs = [X, Y] ∧ relS ρ x X ∧ relS ρ y Y := by
    intro x y xs hl
    match xs, hl.1 with
    | [X, Y], _ =>
      obtain ⟨u, hu, h⟩ := hl.2 0 x rfl; simp at hu; subst hu
      obtain ⟨u', hu', h'⟩ := hl.2 1 y rfl; simp at hu'; subst hu'
      exact ⟨_, _, rfl, h, h'⟩
  have relc : ∀ {x : AV} {r : List AV} {xs : List Value}, RelL ρ (x :: r) xs → ∃ X R, xs = X :: R ∧ relS ρ x X ∧ RelL ρ r R := by
    intro x r xs hl
    match xs, hl.1 with
    | X :: R, h1 =>
      obtain ⟨u, hu, h⟩ := hl.2 0 x rfl; simp at hu; subst hu
      exact ⟨_, _, rfl, h, ⟨by simpa using h1, fun k v hv => by
        obtain ⟨u, hu, hr⟩ := hl.2 (k + 1) v (by simpa using hv)
        exact ⟨u, by simpa using hu, hr⟩⟩⟩
  unfold builtinA at e
  split at e
  · obtain ⟨m, o⟩ := appendE_ok (ρ := ρ) (w := w) e
    refine ⟨m, fun ho hf hr xs hl type consts => ?_⟩
    obtain ⟨X, Y, rfl, hX, hY⟩ := rel2 hl
    obtain ⟨ρ', w', z, r1, r2, r3⟩ := o ho hf hr X Y hX hY type
    exact opRuns_step (s := Builtin.append_ _ type #[X, Y]) r1 (.inr r2) r3
  · split at e
    · rename_i t x _ u hu
      cases e
      refine ⟨.refl _, fun ho hf hr xs hl type consts => ?_⟩
      obtain ⟨X, rfl, hX⟩ := rel1 hl
      obtain ⟨z, hz, hd⟩ := len_ok (w := w) hu hX type
      exact opRuns_val (s := Builtin.len_ _ type #[X]) hz (.inr hd) hr rfl
    · cases e
  · split at e
    · rename_i t x _ u hu
      cases e
      refine ⟨.refl _, fun ho hf hr xs hl type consts => ?_⟩
      obtain ⟨X, rfl, hX⟩ := rel1 hl
      obtain ⟨z, hz, hd⟩ := cap_ok (w := w) hu hX type
      exact opRuns_val (s := Builtin.cap_ _ type #[X]) hz (.inr hd) hr rfl
    · cases e
  · split at e
    · rename_i x r _ u hu
      cases e
      refine ⟨.refl _, fun ho hf hr xs hl type consts => ?_⟩
      obtain ⟨X, R, rfl, hX, hR⟩ := relc hl
      obtain ⟨z, hz, hd⟩ := fold_ok (P := P) (w := w) (fun x y z X Y e hx hy => min2_ok x y z X Y e hx hy) r R x _ X hu hR hX
      exact opRuns_val (s := Builtin.min_ _ type (X :: R).toArray) (by simpa [Builtin.min_] using hz) hd hr rfl
    · cases e
  · split at e
    · rename_i x r _ u hu
      cases e
      refine ⟨.refl _, fun ho hf hr xs hl type consts => ?_⟩
      obtain ⟨X, R, rfl, hX, hR⟩ := relc hl
      obtain ⟨z, hz, hd⟩ := fold_ok (P := P) (w := w) (fun x y z X Y e hx hy => max2_ok x y z X Y e hx hy) r R x _ X hu hR hX
      exact opRuns_val (s := Builtin.max_ _ type (X :: R).toArray) (by simpa [Builtin.max_] using hz) hd hr rfl
    · cases e
  · split at e
    · rename_i t r m k _ h1 hd
      cases e
      obtain ⟨mo, o⟩ := delete_ok (ρ := ρ) (w := w) hd
      refine ⟨mo, fun ho hf hr xs hl type consts => ?_⟩
      obtain ⟨X, Y, rfl, hX, hY⟩ := rel2 hl
      obtain ⟨w', r1, r2⟩ := o hr r type X Y hX hY
      exact opRuns_step (s := Builtin.delete_ _ type #[X, Y]) r1 (.inr (by simp [den, denL])) r2
    · cases e
  · cases e

theorem op1_ok {P : Program} {ρ : Ren} {w : World} {tmps : List AV} {o : Oper} {h h' : Hp} {v : AV} (e : op1 P tmps o.op h = some (v, h')) :
    Mono h h' ∧ ((∀ p ∈ h'.ob, p) → Fresh ρ h.nxt h.hi → HeapRep P ρ h.heap w → GOk ρ → ∀ a : Act, RelL ρ tmps a.tmps.toList → OpRuns P ρ w h h' v (execOp a.eval o)) := by
  obtain ⟨dst, op, type, pos, after, guard⟩ := o
  simp only at e
  unfold op1 at e
  split at e
  -- move, assign
  · have e0 := val_eq e; clear e; obtain ⟨e, rfl⟩ := e0
    exact ⟨.refl _, fun ho hf hr G a hl => ⟨ρ, w, .inl ⟨_, by simp [execOp], evA_ok G e hl⟩, .refl hr rfl⟩⟩
  · have e0 := val_eq e; clear e; obtain ⟨e, rfl⟩ := e0
    exact ⟨.refl _, fun ho hf hr G a hl => ⟨ρ, w, .inl ⟨_, by simp [execOp], evA_ok G e hl⟩, .refl hr rfl⟩⟩
  -- pick
  · split at e
    · rename_i c x y _ _ _ vc vx vy hc hx hy
      split at e
      · rename_i h1 hd
        cases e
        obtain ⟨q, o⟩ := dec_qt hd
        refine ⟨q.mono, fun ho hf hr G a hl => ⟨ρ, w, .inl ⟨_, ?_, evA_ok G hx hl⟩, .refl hr q.heap⟩⟩
        have h2 := evA_ok G hc hl
        have : a.eval c = .bool true := by
          rcases o ho with rfl | rfl <;> (have := relS_den h2 (by simp); simp [den] at this; exact this.symm)
        simp [execOp, this, asBool]
      · rename_i h1 hd
        cases e
        obtain ⟨q, o⟩ := dec_qt hd
        refine ⟨q.mono, fun ho hf hr G a hl => ⟨ρ, w, .inl ⟨_, ?_, evA_ok G hy hl⟩, .refl hr q.heap⟩⟩
        have h2 := evA_ok G hc hl
        have : a.eval c = .bool false := by
          rcases o ho with rfl | rfl <;> (have := relS_den h2 (by simp); simp [den] at this; exact this.symm)
        simp [execOp, this, asBool]
      · cases e
    · cases e
  -- alloc
  · split at e
    · rename_i el _ z hz
      obtain ⟨m, ht, o⟩ := newA_ok (P := P) (ρ := ρ) (w := w) e
      refine ⟨m, fun ho hf hr G a hl => ?_⟩
      obtain ⟨zv, hzr, rfl⟩ := run_zero (w := w) hz
      obtain ⟨ρ', r1, r2, r3⟩ := o hf hr el zv (.inr (ofVal_den ρ zv))
      exact opRuns_step (s := Instr.alloc el true (.tuple #[])) (by simp [Instr.alloc, hzr, r1]) (.inr r2) r3
    · cases e
  -- box
  · split at e
    · rename_i t x _ u hx
      obtain ⟨m, ht, o⟩ := newA_ok (P := P) (ρ := ρ) (w := w) e
      refine ⟨m, fun ho hf hr G a hl => ?_⟩
      obtain ⟨ρ', r1, r2, r3⟩ := o hf hr t _ (evA_ok G hx hl)
      exact opRuns_step (s := Instr.box t _) (by simp [Instr.box, r1]) (.inr r2) r3
    · cases e
  -- build
  · split at e
    · rename_i t ps _ l hp
      have e0 := val_eq e; clear e; obtain ⟨e, rfl⟩ := e0
      refine ⟨.refl _, fun ho hf hr G a hl => ?_⟩
      have hpr := evParts_ok G hl ps.toList l hp
      obtain ⟨x, h1, h2⟩ := build_ok (w := w) (vs := ps.map fun (i, x) => (i, a.eval x)) e (by simpa using hpr)
      exact opRuns_val (s := Instr.build t _) h1 (.inr h2) hr rfl
    · cases e
  -- buildSlice
  · split at e
    · rename_i t n ps _ l hp
      obtain ⟨m, ht, o⟩ := buildSlice_ok (P := P) (ρ := ρ) (w := w) e
      refine ⟨m, fun ho hf hr G a hl => ?_⟩
      have hpr := evParts_ok G hl ps.toList l hp
      obtain ⟨ρ', w', x, h1, h2, h3⟩ := o hf hr (ps.map fun (i, x) => (i, a.eval x)) (by simpa using hpr)
      exact opRuns_step (s := Instr.buildSlice t n _) h1 (.inr h2) h3
    · cases e
  -- load
  · split at e
    · rename_i t x _ u hx
      obtain ⟨q, ht, o⟩ := loadA_ok (P := P) (ρ := ρ) (w := w) e
      refine ⟨q.mono, fun ho hf hr G a hl => ?_⟩
      have h1 := evA_ok G hx hl
      have hu : u ≠ .top := by intro e'; subst e'; simp [loadA] at e
      obtain ⟨y, h2, h3⟩ := o ho hr _ (relS_den h1 hu)
      exact opRuns_val (s := Instr.loadAt t _) h2 (.inr h3) hr q.heap
    · cases e
  -- store
  · split at e
    · rename_i t x y _ _ u v' hx hy
      have e0 := skp_eq e; clear e; obtain ⟨e, rfl⟩ := e0
      obtain ⟨m, o⟩ := storeA_ok (P := P) (ρ := ρ) (w := w) e
      refine ⟨m, fun ho hf hr G a hl => ?_⟩
      obtain ⟨w', h1, h2⟩ := o ho hr _ _ (evA_ok G hx hl) (evA_ok G hy hl)
      exact opRuns_skip (s := Instr.storeAt t _ _) h1 h2
    · cases e
  -- nilCheck
  · split at e
    · rename_i x _ b i j hx
      cases e
      refine ⟨.refl _, fun ho hf hr G a hl => ?_⟩
      have h1 := evA_ok G hx hl
      obtain ⟨L, hL, hnil, h2⟩ := den_ptr (relS_den h1 (by simp))
      exact ⟨ρ, w, .inl ⟨a.eval x, by simp [execOp, h2], h1⟩, .refl hr rfl⟩
    · cases e
  -- binOp
  · split at e
    · rename_i op t x y yt _ _ u v' hx hy
      obtain ⟨q, ht, o⟩ := binE_ok (P := P) (ρ := ρ) (w := w) e
      refine ⟨q.mono, fun ho hf hr G a hl => ?_⟩
      obtain ⟨z, h1, h2⟩ := o ho hr x y _ _ (evA_ok G hx hl) (evA_ok G hy hl)
      exact opRuns_val (s := do eqGuard op t x y (a.eval x) (a.eval y); binOp op t (a.eval x) (a.eval y)) h1 (.inr h2) hr q.heap
    · cases e
  -- unOp
  · split at e
    · rename_i op t x _ u hx
      have e0 := val_eq e; clear e; obtain ⟨e, rfl⟩ := e0
      refine ⟨.refl _, fun ho hf hr G a hl => ?_⟩
      obtain ⟨z, h1, h2⟩ := un_ok (P := P) (w := w) e (evA_ok G hx hl)
      exact opRuns_val (s := Op.unary op _) h1 (.inr h2) hr rfl
    · cases e
  -- convert
  · split at e
    · rename_i src dst' x _ _ u d hx hsrc
      have e0 := val_eq e; clear e; obtain ⟨e, rfl⟩ := e0
      refine ⟨.refl _, fun ho hf hr G a hl => ?_⟩
      obtain ⟨z, h1, h2⟩ := conv_ok (P := P) (w := w) ⟨d, hsrc⟩ e (evA_ok G hx hl)
      exact opRuns_val (s := convert src dst' _) h1 (.inr h2) hr rfl
    · cases e
  -- makeInterface
  · split at e
    · cases e
    · rename_i t x _ _ u d hn hx hu
      split at e
      · rename_i hk
        cases e
        refine ⟨.refl _, fun ho hf hr G a hl => ?_⟩
        have hut : u ≠ .top := by intro e; subst e; simp [AV.known] at hk
        have h1 := relS_den (evA_ok G hx hl) hut
        refine opRuns_val (s := Instr.makeInterface t _) (x := .iface t (a.eval x)) ?_ (.inr (by simp [den, h1])) hr rfl
        simp only [Instr.makeInterface, Sem.run_bind, run_underlying' hu, Result.andThen_ok]
        cases d <;> first | rfl | exact absurd rfl (hn _)
      · cases e
    · cases e
  -- makeFunc
  · split at e
    · rename_i fn first captured _ _ l m hl1 hm1
      split at e
      · rename_i hk1 hk2
        cases e
        refine ⟨.refl _, fun ho hf hr G a hl => ?_⟩
        have h1 := (evAll_ok G hl _ _ hl1).den (allKnown_mem hk1)
        have h2 := (evAll_ok G hl _ _ hm1).den (allKnown_mem hk2)
        refine opRuns_val (s := Instr.makeFunc fn (first.map a.eval) (captured.map a.eval)) (x := .func fn (first.map a.eval) (captured.map a.eval)) (by simp [Instr.makeFunc]) (.inr ?_) hr rfl
        simp only [den, h1, h2]
        congr 1
        congr 1 <;> exact Array.ext' (by simp)
      · cases e
    · cases e
  -- makeMap
  · rename_i t
    obtain ⟨m, ht, o⟩ := makeMap_ok (P := P) (ρ := ρ) (w := w) e
    refine ⟨m, fun ho hf hr G a hl => ?_⟩
    obtain ⟨ρ', w', x, h1, h2, h3⟩ := o hf hr
    exact opRuns_step (s := Instr.makeMap t none) h1 (.inr h2) h3
  -- makeSlice
  · split at e
    · rename_i t x y _ _ u v' hx hy
      obtain ⟨m, ht, o⟩ := makeSliceE_ok (P := P) (ρ := ρ) (w := w) e
      refine ⟨m, fun ho hf hr G a hl => ?_⟩
      obtain ⟨ρ', w', z, h1, h2, h3⟩ := o ho hf hr _ _ (evA_ok G hx hl) (evA_ok G hy hl)
      exact opRuns_step (s := Instr.makeSlice t _ _) h1 (.inr h2) h3
    · cases e
  -- slice
  · split at e
    · rename_i t x lo hi mx _ _ _ _ u lo' hi' mx' hx hlo hhi hmx
      rcases sliceE_cases e with e | ⟨l, r, rfl, rfl, rfl, e2⟩
      · obtain ⟨q, ht, o⟩ := slice_ok (P := P) (ρ := ρ) (w := w) e
        refine ⟨q.mono, fun ho hf hr G a hl => ?_⟩
        obtain ⟨z, h1, h2⟩ := o ho _ _ _ _ (evA_ok G hx hl) (evOpt_ok G hl hlo) (evOpt_ok G hl hhi) (evOpt_ok G hl hmx)
        exact opRuns_val (s := Instr.sliceAt t _ _ _ _) h1 (.inr h2) hr q.heap
      · obtain ⟨m, o⟩ := sliceTail_ok (P := P) (ρ := ρ) (w := w) e2
        refine ⟨hints_mono' m, fun ho hf hr G a hl => ?_⟩
        have elo := evOpt_ok G hl hlo
        have ehi := evOpt_ok G hl hhi
        have emx := evOpt_ok G hl hmx
        cases lo with
        | none => simp [OptRel] at elo
        | some l0 =>
          cases hi with
          | some _ => simp [OptRel] at ehi
          | none =>
            cases mx with
            | some _ => simp [OptRel] at emx
            | none =>
              obtain ⟨ρ', z, h1, h2, h3⟩ := o ho hf hr _ _ (evA_ok G hx hl) elo
              exact opRuns_step (s := Instr.sliceAt t _ (some _) none none) h1 (.inr h2) h3.of_hints
    · cases e
  -- fieldAddr
  · split at e
    · rename_i t x f _ u hx
      have e0 := val_eq e; clear e; obtain ⟨e, rfl⟩ := e0
      refine ⟨.refl _, fun ho hf hr G a hl => ?_⟩
      obtain ⟨z, h1, h2⟩ := fieldAddr_ok (P := P) (w := w) e (evA_ok G hx hl)
      exact opRuns_val (s := Instr.fieldAt t _ f) h1 (.inr h2) hr rfl
    · cases e
  -- field
  · split at e
    · rename_i t x f _ u hx
      have e0 := val_eq e; clear e; obtain ⟨e, rfl⟩ := e0
      refine ⟨.refl _, fun ho hf hr G a hl => ?_⟩
      obtain ⟨z, h1, h2⟩ := field_ok (P := P) (w := w) e (evA_ok G hx hl)
      exact opRuns_val (s := Instr.field t _ f) h1 (.inr h2) hr rfl
    · cases e
  -- indexAddr
  · split at e
    · rename_i t x i _ _ u v' hx hi
      obtain ⟨q, ht, o⟩ := indexAddr_ok (P := P) (ρ := ρ) (w := w) e
      refine ⟨q.mono, fun ho hf hr G a hl => ?_⟩
      obtain ⟨z, h1, h2⟩ := o ho _ _ (evA_ok G hx hl) (evA_ok G hi hl)
      exact opRuns_val (s := Instr.indexAt t _ _) h1 (.inr h2) hr q.heap
    · cases e
  -- index
  · split at e
    · rename_i t x i _ _ u v' hx hi
      obtain ⟨q, o⟩ := index_ok (P := P) (ρ := ρ) (w := w) e
      refine ⟨q.mono, fun ho hf hr G a hl => ?_⟩
      obtain ⟨z, h1, h2⟩ := o ho _ _ (evA_ok G hx hl) (evA_ok G hi hl)
      exact opRuns_val (s := Instr.index t _ _) h1 (.inr h2) hr q.heap
    · cases e
  -- lookup
  · split at e
    · rename_i t m k ok _ _ u v' hx hi
      have e0 := val_eq e; clear e; obtain ⟨e, rfl⟩ := e0
      refine ⟨.refl _, fun ho hf hr G a hl => ?_⟩
      obtain ⟨z, h1, h2⟩ := lookup_ok (P := P) (w := w) e hr (evA_ok G hx hl) (evA_ok G hi hl)
      exact opRuns_val (s := Instr.lookup t _ _ ok) h1 (.inr h2) hr rfl
    · cases e
  -- mapUpdate, insert
  · split at e
    · rename_i t m k x _ _ _ u v' x' hm hk hx
      have e0 := skp_eq e; clear e; obtain ⟨e, rfl⟩ := e0
      obtain ⟨mo, o⟩ := update_ok (P := P) (ρ := ρ) (w := w) e
      refine ⟨mo, fun ho hf hr G a hl => ?_⟩
      obtain ⟨w', h1, h2⟩ := o hr _ _ _ (evA_ok G hm hl) (evA_ok G hk hl) (evA_ok G hx hl)
      exact opRuns_skip (s := Instr.mapUpdate t _ _ _) h1 h2
    · cases e
  · split at e
    · rename_i t m k x _ _ _ u v' x' hm hk hx
      have e0 := skp_eq e; clear e; obtain ⟨e, rfl⟩ := e0
      obtain ⟨mo, o⟩ := update_ok (P := P) (ρ := ρ) (w := w) e
      refine ⟨mo, fun ho hf hr G a hl => ?_⟩
      obtain ⟨w', h1, h2⟩ := o hr _ _ _ (evA_ok G hm hl) (evA_ok G hk hl) (evA_ok G hx hl)
      exact opRuns_skip (s := Instr.mapUpdate t _ _ _) h1 h2
    · cases e
  -- mapEntry, entryStore
  · split at e
    · rename_i t m k _ _ u v' hm hk
      obtain ⟨mo, hne, o⟩ := entryA_ok (P := P) (ρ := ρ) (w := w) e
      refine ⟨mo, fun ho hf hr G a hl => ?_⟩
      obtain ⟨ρ', x, w', h1, h2, h3⟩ := o hf hr _ _ (evA_ok G hm hl) (evA_ok G hk hl)
      exact opRuns_step (s := Instr.mapEntry t _ _) h1 (.inr h2) h3
    · cases e
  · split at e
    · rename_i t m s x _ _ _ u v' x' hm hk hx
      have e0 := skp_eq e; clear e; obtain ⟨e, rfl⟩ := e0
      obtain ⟨mo, o⟩ := entryStoreA_ok (P := P) (ρ := ρ) (w := w) e
      refine ⟨mo, fun ho hf hr G a hl => ?_⟩
      obtain ⟨w', h1, h2⟩ := o hr _ _ _ (evA_ok G hm hl) (evA_ok G hk hl) (evA_ok G hx hl)
      exact opRuns_skip (s := Instr.entryStore t _ _ _) h1 h2
    · cases e
  -- typeAssert
  · rename_i x xt t ok
    split at e
    · cases e
    · rename_i t' u d hn hx hu
      have hkey : GOk ρ → ∀ (a : Act), RelL ρ tmps a.tmps.toList → ∃ y, a.eval x = .iface t' y ∧ den ρ u = some y := by
        intro G a hl
        have := relS_den (evA_ok G hx hl) (by simp)
        simp only [den] at this
        cases hd : den ρ u with
        | none => simp [hd] at this
        | some y => simp only [hd] at this; exact ⟨y, (Option.some.inj this).symm, rfl⟩
      have hund : ∀ {α : Type} (f : TypeDesc → α) (g : α), (∀ ms, d = .interface ms → False) := fun _ _ ms h => hn ms h
      split at e
      · rename_i hb
        cases e
        have hb := Nat.eq_of_beq_eq_true hb; subst hb
        refine ⟨.refl _, fun ho hf hr G a hl => ?_⟩
        obtain ⟨y, h1, h2⟩ := hkey G a hl
        refine opRuns_val (s := Instr.typeAssert (a.eval x) xt t' true) (x := .tuple #[y, .bool true]) ?_ (.inr (by simp [den, denL, h2])) hr rfl
        rw [h1]
        simp only [Instr.typeAssert, Sem.run_bind, run_underlying' hu, Result.andThen_ok]
        cases d <;> first | (simp; done) | exact absurd rfl (hn _)
      · rename_i hb
        cases e
        have hb := Nat.eq_of_beq_eq_true hb; subst hb
        refine ⟨.refl _, fun ho hf hr G a hl => ?_⟩
        obtain ⟨y, h1, h2⟩ := hkey G a hl
        refine opRuns_val (s := Instr.typeAssert (a.eval x) xt t' false) (x := y) ?_ (.inr h2) hr rfl
        rw [h1]
        simp only [Instr.typeAssert, Sem.run_bind, run_underlying' hu, Result.andThen_ok]
        cases d <;> first | (simp; done) | exact absurd rfl (hn _)
      · rename_i hb
        have hb : t' ≠ t := by intro h; subst h; simp at hb
        split at e
        · rename_i z hz
          cases e
          refine ⟨.refl _, fun ho hf hr G a hl => ?_⟩
          obtain ⟨y, h1, h2⟩ := hkey G a hl
          obtain ⟨zv, hzr, rfl⟩ := run_zero (w := w) hz
          refine opRuns_val (s := Instr.typeAssert (a.eval x) xt t true) (x := .tuple #[zv, .bool false]) ?_ (.inr (by simp [den, denL, ofVal_den])) hr rfl
          rw [h1]
          simp only [Instr.typeAssert, Sem.run_bind, run_underlying' hu, Result.andThen_ok]
          cases d <;> first | (simp [hb, hzr]; done) | exact absurd rfl (hn _)
        · cases e
      · cases e
    · rename_i d hn hx hu
      split at e
      · rename_i z hz
        cases e
        refine ⟨.refl _, fun ho hf hr G a hl => ?_⟩
        have h1 : a.eval x = .nilIface := by
          have := relS_den (evA_ok G hx hl) (by simp)
          simp [den] at this; exact this.symm
        obtain ⟨zv, hzr, rfl⟩ := run_zero (w := w) hz
        refine opRuns_val (s := Instr.typeAssert (a.eval x) xt t true) (x := .tuple #[zv, .bool false]) ?_ (.inr (by simp [den, denL, ofVal_den])) hr rfl
        rw [h1]
        simp only [Instr.typeAssert, Sem.run_bind, run_underlying' hu, Result.andThen_ok]
        cases d <;> first | (simp [hzr]; done) | exact absurd rfl (hn _)
      · cases e
    · cases e
  -- extract
  · split at e
    · rename_i x i _ l hx
      have e0 := val_eq e; clear e; obtain ⟨e, rfl⟩ := e0
      refine ⟨.refl _, fun ho hf hr G a hl => ?_⟩
      obtain ⟨xs, hxs, h1⟩ := den_tup (relS_den (evA_ok G hx hl) (by simp))
      rw [nth_eq] at e
      obtain ⟨y, hy, hd⟩ := denL_get _ _ hxs i v e
      exact opRuns_val (s := Instr.extract _ i) (x := y) (by simp [h1, Instr.extract, hy]) (.inr hd) hr rfl
    · cases e
  -- a builtin
  · split at e
    · rename_i b args ts _ l hl1
      obtain ⟨m, o⟩ := builtin_ok (ρ := ρ) (w := w) e
      refine ⟨m, fun ho hf hr G a hl => ?_⟩
      exact o ho hf hr (args.map a.eval).toList (by rw [Array.toList_map]; exact evAll_ok G hl _ _ hl1) type _
    · cases e
  · cases e

end Go.Ev

/-
  Code, regions, calls: the soundness of the evaluator, last part.
-/
set_option linter.unusedSimpArgs false
set_option linter.unusedVariables false
namespace Go.Ev

/-- What the evaluator asks of the program. -/
structure Good (P : Program) : Prop where
  mixed : P.follows .mixedOrders = true
  names : ∀ (f : Nat) fn, P.funcs[f]? = some fn → fn.body.isSome = true → (fn.name == "runtime.NumGoroutine") = false

def Obs (h : Hp) : Prop := ∀ p ∈ h.ob, p

theorem Obs.of {h h' : Hp} (m : Mono h h') (o : Obs h') : Obs h := fun p hp => o p (m.ob p hp)

def exOf : Ex → Exit
  | .norm => .normal
  | .exit id => .exit id
  | .goto l => .goto l
  | .ret => .ret

/-- What is known when an abstract state stands for the machine's. -/
structure Pre (P : Program) (ρ : Ren) (tmps : List AV) (h : Hp) (a : Act) (w : World) : Prop where
  rel : RelL ρ tmps a.tmps.toList
  defers : a.defers = []
  rep : HeapRep P ρ h.heap w
  fresh : Fresh ρ h.nxt h.hi
  glob : GOk ρ

theorem Pre.next {P : Program} {ρ ρ' : Ren} {tmps tmps' : List AV} {h h' : Hp} {a a' : Act} {w w' : World} (p : Pre P ρ tmps h a w) (s : Step P ρ h w ρ' h' w') (m : Mono h h') (hr : RelL ρ' tmps' a'.tmps.toList) (hd : a'.defers = []) : Pre P ρ' tmps' h' a' w' :=
  ⟨hr, hd, s.rep, s.fresh m p.fresh, p.glob.mono s.le⟩

def Post (P : Program) (ρ : Ren) (h : Hp) (w : World) (e : Ex) (s' : St) (Q : Exit → Act → World → Prop) : Prop :=
  ∀ ρ' a' w', RelL ρ' s'.tmps a'.tmps.toList → a'.defers = [] → Step P ρ h w ρ' s'.hp w' → Q (exOf e) a' w'

structure ExOk (P : Program) (c : Code) (s : St) (e : Ex) (s' : St) : Prop where
  mono : Mono s.hp s'.hp
  wp : Obs s'.hp → ∀ ρ a w Q, Pre P ρ s.tmps s.hp a w → Post P ρ s.hp w e s' Q → c.wp P Q a w

structure LpOk (P : Program) (n : Nat) (c : Code) (s : St) (e : Ex) (s' : St) : Prop where
  mono : Mono s.hp s'.hp
  wp : Obs s'.hp → ∀ ρ a w Q, Pre P ρ s.tmps s.hp a w → Post P ρ s.hp w e s' Q → Code.rounds P c Q n a w

structure SqOk (P : Program) (all rest : List Oper) (s s' : St) : Prop where
  mono : Mono s.hp s'.hp
  wp : Obs s'.hp → ∀ ρ a w Q, Pre P ρ s.tmps s.hp a w → Post P ρ s.hp w .norm s' Q → wpList P all.toArray Q rest a w

/-- An operation, a call among them. -/
structure OpOk (P : Program) (tmps : List AV) (op : Op) (h : Hp) (v : AV) (h' : Hp) : Prop where
  mono : Mono h h'
  wp : Obs h' → ∀ ρ a w, Pre P ρ tmps h a w → ∀ (o : Oper) Q (next : Act → World → Prop), o.op = op → (∀ ρ' x w', relS ρ' v x → Step P ρ h w ρ' h' w' → next (a.put o.dst x) w') → o.wp P a w next Q

structure CaOk (P : Program) (f : FuncId) (args : List AV) (h : Hp) (v : AV) (h' : Hp) : Prop where
  mono : Mono h h'
  wp : Obs h' → ∀ ρ w, HeapRep P ρ h.heap w → Fresh ρ h.nxt h.hi → GOk ρ → ∀ xs, denL ρ args = some xs → Calls P f xs.toArray w fun e w' => ∃ x ρ', e = .returned x ∧ relS ρ' v x ∧ Step P ρ h w ρ' h' w'

/-- What a loop's obligation says. -/
def LoopHolds (P : Program) (c : Code) (s : St) (e : Ex) (s' : St) : Prop :=
  ∀ ρ a w Q, Pre P ρ s.tmps s.hp a w → Post P ρ s.hp w e s' Q → (Code.loop c).wp P Q a w

/-- An environment whose contracts hold. -/
structure EnvOk (E : Env) : Prop where
  good : Good E.P
  loops : ∀ c s e s', E.lob c s e s' → LoopHolds E.P c s e s'
  spec : ∀ f g, E.spec f = some g → ∀ args h v h', g args h = some (v, h') → CaOk E.P f args h v h'

/-! ### calls -/
theorem bodied_enter {P : Program} (G : Good P) {w : World} {f : FuncId} (h : bodied P f = true) (xs : Array Value) : (callFunc f xs).run P w = .ok (.enter f xs) w := by
  unfold bodied at h
  split at h
  · rename_i fn hf
    split at h
    · rename_i c hc
      have hn := G.names f fn hf (by simp [hc])
      have hn' : ¬ fn.name = "runtime.NumGoroutine" := by simpa using hn
      simp [callFunc, hf, hn', hc]
    · cases h
  · cases h

theorem findM_eq (name : String) : ∀ (l : List Method), findM name l = l.find? (fun m => m.name == name)
  | [] => rfl
  | m :: r => by
    simp only [findM, List.find?_cons]
    split <;> rename_i h <;> simp only [h]
    exact findM_eq name r

theorem method_ok {P : Program} {w : World} {t : TypeId} {name : String} {f : FuncId} (e : methodA P t name = some f) (v : Value) (n : Nat) : (method (n + 1) t v name).run P w = .ok (f, v) w := by
  unfold methodA at e
  split at e
  · rename_i i hi
    split at e
    · rename_i m hm
      rw [findM_eq] at hm
      have hm' : i.methods.find? (fun m => m.name == name) = some m := by rw [← Array.find?_toList]; exact hm
      split at e
      · rename_i f' el hp hf hu
        cases e
        simp [method, typeInfo, hi, hm', hp, follow, hf, receiverAt, run_underlying' hu, Place.get]
      · cases e
      · rename_i f' d hnp hp hf hu
        cases e
        simp only [method, typeInfo, Sem.run_bind, run_program, Result.andThen_ok, hi, Sem.run_pure, hm', hp, follow, hf, receiverAt, run_underlying' hu]
        cases d <;> first | (simp [Place.get]; done) | (exfalso; exact hnp _ rfl)
      · cases e
    · cases e
  · cases e

theorem relL_cons {ρ : Ren} {v : AV} {l : List AV} {x : Value} {xs : List Value} (h : relS ρ v x) (hl : RelL ρ l xs) : RelL ρ (v :: l) (x :: xs) :=
  ⟨by simp [hl.1], fun k u hk => by
    cases k with
    | zero => simp at hk; subst hk; exact ⟨x, rfl, h⟩
    | succ k => simp at hk; obtain ⟨y, hy, hr⟩ := hl.2 k u hk; exact ⟨y, by simpa using hy, hr⟩⟩

theorem relL_append {ρ : Ren} {l m : List AV} {xs ys : List Value} (h : RelL ρ l xs) (h' : RelL ρ m ys) : RelL ρ (l ++ m) (xs ++ ys) := by
  refine ⟨by simp [h.1, h'.1], fun k v hk => ?_⟩
  rw [List.getElem?_append] at hk ⊢
  rw [← h.1]
  split at hk
  · rename_i hlt; rw [if_pos hlt]; exact h.2 k v hk
  · rename_i hlt; rw [if_neg hlt]; exact h'.2 _ v hk

theorem relL_head {ρ : Ren} {v : AV} {l : List AV} {xs : List Value} (h : RelL ρ (v :: l) xs) : ∃ x r, xs = x :: r ∧ relS ρ v x ∧ RelL ρ l r := by
  match xs, h.1 with
  | x :: r, h1 =>
    obtain ⟨u, hu, hr⟩ := h.2 0 v rfl
    simp at hu; subst hu
    exact ⟨_, _, rfl, hr, ⟨by simpa using h1, fun k v hv => by
      obtain ⟨u, hu, hr⟩ := h.2 (k + 1) v (by simpa using hv)
      exact ⟨u, by simpa using hu, hr⟩⟩⟩

theorem den_func {ρ : Ren} {f : Fn} {l m : List AV} {x : Value} (h : den ρ (.func f l m) = some x) : ∃ xs ys, denL ρ l = some xs ∧ denL ρ m = some ys ∧ x = .func f xs.toArray ys.toArray := by
  simp only [den] at h
  cases hl : denL ρ l with
  | none => simp [hl] at h
  | some l' => cases hm : denL ρ m with
    | none => simp [hl, hm] at h
    | some m' => simp only [hl, hm] at h; cases h; exact ⟨l', m', rfl, rfl, rfl⟩

theorem den_iface {ρ : Ren} {t : TypeId} {v : AV} {x : Value} (h : den ρ (.iface t v) = some x) : ∃ y, den ρ v = some y ∧ x = .iface t y := by
  simp only [den] at h
  cases hl : den ρ v with
  | none => simp [hl] at h
  | some l' => simp only [hl] at h; cases h; exact ⟨l', rfl, rfl⟩

theorem target_ok {P : Program} (G : Good P) {ρ : Ren} {w : World} {fn : Fn} {args cap : List AV} {f : FuncId} {args' : List AV} (e : targetA P fn args cap = some (f, args')) (hb : bodied P f = true) {xs cs : List Value} (hx : RelL ρ args xs) (hc : RelL ρ cap cs) :
    ∃ ys, RelL ρ args' ys ∧ (invoke (.fn fn cs.toArray) xs.toArray).run P w = .ok (.enter f ys.toArray) w := by
  have hmeth : ∀ {t v r f' name}, args = .iface t v :: r → methodA P t name = some f' → f = f' → args' = v :: r → ∃ ys y R, RelL ρ args' ys ∧ xs = .iface t y :: R ∧ ys = y :: R ∧ ∀ (n : Nat), (method (n + 1) t y name).run P w = .ok (f, y) w := by
    intro t v r f' name ha hm hf ha'
    subst ha; subst hf; subst ha'
    obtain ⟨x, R, rfl, hr, hR⟩ := relL_head hx
    obtain ⟨y, hy, rfl⟩ := den_iface (relS_den hr (by simp))
    exact ⟨_, y, R, relL_cons (.inr hy) hR, rfl, rfl, fun n => method_ok hm y n⟩
  have hdepth : ∀ {t : TypeId} {y : Value} {name : String}, (∀ (n : Nat), (method (n + 1) t y name).run P w = .ok (f, y) w) → (method (P.types.size + Made.depth) t y name).run P w = .ok (f, y) w := by
    intro t y name h
    have := h (P.types.size + 99)
    exact this
  unfold targetA at e
  split at e
  · cases e
    refine ⟨xs ++ cs, relL_append hx hc, ?_⟩
    have := bodied_enter G (w := w) hb (xs ++ cs).toArray
    simpa [invoke] using this
  · split at e
    · rename_i t v r
      split at e
      · rename_i f' hm
        cases e
        obtain ⟨ys, y, R, h1, rfl, rfl, h4⟩ := hmeth rfl hm rfl rfl
        refine ⟨_, h1, ?_⟩
        have := bodied_enter G (w := w) hb (y :: R).toArray
        simp [invoke, callMethod, hdepth h4]
        simpa using this
      · cases e
    · cases e
  · split at e
    · rename_i ms hu
      split at e
      · rename_i t v r
        split at e
        · rename_i f' hm
          cases e
          obtain ⟨ys, y, R, h1, rfl, rfl, h4⟩ := hmeth rfl hm rfl rfl
          refine ⟨_, h1, ?_⟩
          have := bodied_enter G (w := w) hb (y :: R).toArray
          simp [invoke, run_underlying' hu, callMethod, hdepth h4]
          simpa using this
        · cases e
      · cases e
    · rename_i t name d hnd hu
      split at e
      · rename_i v r
        split at e
        · rename_i f' hm
          cases e
          obtain ⟨x, R, rfl, hr, hR⟩ := relL_head hx
          refine ⟨_, relL_cons hr hR, ?_⟩
          have h4 := hdepth (fun n => method_ok (w := w) hm x n)
          have := bodied_enter G (w := w) hb (x :: R).toArray
          cases d <;> first
            | (exfalso; exact hnd _ rfl)
            | (simp [invoke, run_underlying' hu, callMethod, h4]; simpa using this)
        · cases e
      · cases e
    · cases e
  · cases e

theorem callee_ok {P : Program} (G : Good P) {ρ : Ren} (K : GOk ρ) {w : World} {tmps : List AV} {o : Oper} {f : FuncId} {args : List AV} (e : callee P tmps o.op = some (some (f, args))) {a : Act} (hr : RelL ρ tmps a.tmps.toList) :
    ∃ xs, denL ρ args = some xs ∧ (execOp a.eval o).run P w = .ok (.enter f xs.toArray) w := by
  obtain ⟨dst, op, type, pos, after, guard⟩ := o
  simp only at e
  unfold callee at e
  split at e
  · rename_i fo argso ats
    split at e
    · rename_i fn first captured args0 hf hargs
      split at e
      · rename_i f' args' ht
        split at e
        · rename_i hb hk
          cases e
          obtain ⟨fs, cs, h1, h2, h3⟩ := den_func (relS_den (evA_ok K hf hr) (by simp))
          have h4 := evAll_ok K hr _ _ hargs
          obtain ⟨ys, hy, hrun⟩ := target_ok G (w := w) ht hb (relL_append (denL.rel h1) h4) (denL.rel h2)
          refine ⟨ys, hy.den (allKnown_mem hk), ?_⟩
          simp only [execOp, resolve, h3, Deferred.ofValue]
          have : (fs ++ List.map a.eval argso.toList).toArray = fs.toArray ++ Array.map a.eval argso := Array.ext' (by simp)
          rw [this] at hrun
          exact hrun
        · cases e
      · cases e
    · cases e
  · rename_i r name argso ats
    split at e
    · rename_i t v args0 hf hargs
      split at e
      · rename_i f' hm
        split at e
        · rename_i hb hk
          cases e
          obtain ⟨y, hy, h3⟩ := den_iface (relS_den (evA_ok K hf hr) (by simp))
          have h4 := evAll_ok K hr _ _ hargs
          have hrel := relL_cons (.inr hy) h4
          refine ⟨_, hrel.den (allKnown_mem hk), ?_⟩
          have hme : (method (P.types.size + Made.depth) t y name).run P w = .ok (f, y) w := method_ok hm y (P.types.size + 99)
          have := bodied_enter G (w := w) hb (y :: List.map a.eval argso.toList).toArray
          have hargs' : Array.map a.eval argso = (List.map a.eval argso.toList).toArray := Array.ext' (by simp)
          simp only [execOp, resolve, h3, hargs']
          generalize List.map a.eval argso.toList = l at this ⊢
          simp [invoke, callMethod, hme]
          simpa using this
        · cases e
      · cases e
    · cases e
  · cases e

theorem settle_ok {ops : List Oper} {i : Nat} {v v' : AV} {h h' : Hp} (e : settle ops i v h = some (v', h')) : Qt h h' ∧ (Obs h' → ∀ ρ x, relS ρ v x → relS ρ v' x) := by
  unfold settle at e
  split at e
  · split at e
    · split at e
      · rename_i c h1 hd
        cases e
        obtain ⟨q, o⟩ := dec_qt hd
        refine ⟨q, fun ho ρ x hx => ?_⟩
        have hx := relS_den hx (by simp)
        rcases o ho with h | h
        · cases h
        · cases h; exact .inr (by simpa [den] using hx)
      · cases e
    · cases e; exact ⟨.refl _, fun _ _ _ h => h⟩
  · cases e; exact ⟨.refl _, fun _ _ _ h => h⟩

theorem wanted_ok {ρ : Ren} {all : List Oper} {tmps : List AV} {o : Oper} {b : Bool} (e : wantedA all tmps o = some b) {a : Act} (hr : RelL ρ tmps a.tmps.toList) : Region.wanted o (yielded all.toArray a.tmps) = b := by
  unfold wantedA at e
  unfold Region.wanted
  split at e
  · rename_i hg; cases e; rw [hg]
  · rename_i j want hg
    rw [hg]
    simp only
    have hy : ∀ d, dstOf all j = some d → yielded all.toArray a.tmps j = (match a.tmps[d]? with | some (.bool b) => some b | _ => none) := by
      intro d hd
      unfold dstOf at hd
      rw [nth_eq] at hd
      split at hd
      · rename_i o' ho'
        have h1 : all.toArray[j]? = some o' := by simpa using ho'
        simp only [yielded, h1, Option.bind_some, hd]
        cases a.tmps[d]? with
        | none => rfl
        | some v => cases v <;> rfl
      · cases hd
    split at e
    · rename_i hd
      cases e
      unfold dstOf at hd
      rw [nth_eq] at hd
      have : yielded all.toArray a.tmps j = none := by
        split at hd
        · rename_i o' ho'
          have h1 : all.toArray[j]? = some o' := by simpa using ho'
          simp [yielded, h1, hd]
        · rename_i ho'
          have h1 : all.toArray[j]? = none := by simpa using ho'
          simp [yielded, h1]
      rw [this]; rfl
    · rename_i d hd
      rw [hy d hd]
      rw [nth_eq] at e
      cases ht : tmps[d]? with
      | none =>
        rw [ht] at e
        cases e
        have : a.tmps[d]? = none := by
          have h1 := List.getElem?_eq_none_iff.1 ht
          have := hr.1
          exact Array.getElem?_eq_none (by simp at this; omega)
        rw [this]; rfl
      | some v =>
        rw [ht] at e
        obtain ⟨x, hx, hv⟩ := hr.2 d v ht
        have hx' : a.tmps[d]? = some x := by simpa using hx
        rw [hx']
        cases v <;> simp only at e
        case top => cases e
        case symb => cases e
        case raw => cases e
        case bool c =>
          have := relS_den hv (by simp); simp [den] at this; subst this
          cases e; cases c <;> cases want <;> rfl
        all_goals (
          cases e
          have hd := relS_den hv (by simp)
          have : ∀ b, x ≠ .bool b := by
            intro b hb; subst hb
            first
              | (simp [den] at hd; done)
              | (obtain ⟨L, _, _, h⟩ := den_ptr hd; cases h)
              | (obtain ⟨L, _, _, _, _, _, h⟩ := den_xs hd; cases h)
              | (obtain ⟨L, _, _, ⟨_, _, _, _, h⟩ | ⟨_, _, _, h⟩⟩ := den_ss hd <;> cases h)
              | (obtain ⟨_, _, _, _, h⟩ := den_func hd; cases h)
              | (obtain ⟨_, _, h⟩ := den_iface hd; cases h)
              | (obtain ⟨_, _, h⟩ := den_agg hd; cases h)
              | (obtain ⟨_, _, h⟩ := den_tup hd; cases h)
              | (simp only [den] at hd; split at hd <;> cases hd)
          cases x <;> first | rfl | exact absurd rfl (this _))

theorem relL_put {ρ : Ren} {tmps : List AV} {a : Act} {v : AV} {x : Value} (dst : Option Tmp) (hr : RelL ρ tmps a.tmps.toList) (hv : relS ρ v x) : RelL ρ (putT tmps dst v) (a.put dst x).tmps.toList := by
  cases dst with
  | none => exact hr
  | some d =>
    simp only [putT, setNth_eq, Act.put]
    refine ⟨by simpa using hr.1, fun k u hk => ?_⟩
    rw [Array.toList_setIfInBounds]
    have hlen := hr.1
    rw [List.getElem?_set] at hk ⊢
    split at hk
    · rename_i hdk
      split at hk
      · rename_i hlt
        cases hk
        rw [if_pos hdk, if_pos (by omega)]
        exact ⟨x, rfl, hv⟩
      · cases hk
    · rename_i hdk
      rw [if_neg hdk]
      exact hr.2 k u hk

theorem put_defers (a : Act) (dst : Option Tmp) (x : Value) : (a.put dst x).defers = a.defers := by cases dst <;> rfl

theorem undef_rel (ρ : Ren) : relS ρ (.tup []) undef := .inr (by simp [den, denL, undef])

/-- An operation's step from what its run says. -/
theorem wp_of_run {P : Program} {ρ : Ren} {w : World} {h h' : Hp} {v : AV} {o : Oper} {a : Act} {next : Act → World → Prop} {Q : Exit → Act → World → Prop} (hr : OpRuns P ρ w h h' v (execOp a.eval o))
    (hn : ∀ ρ' x w', relS ρ' v x → Step P ρ h w ρ' h' w' → next (a.put o.dst x) w') : o.wp P a w next Q := by
  obtain ⟨ρ', w', ⟨x, hx, hv⟩ | ⟨hx, rfl⟩, hs⟩ := hr
  · unfold Oper.wp; rw [hx]; exact hn ρ' x w' hv hs
  · unfold Oper.wp; rw [hx]; exact hn ρ' undef w' (undef_rel ρ') hs

theorem step_settle {P : Program} {ρ ρ' : Ren} {h h1 h2 : Hp} {w w' : World} (s : Step P ρ h w ρ' h1 w') (q : Qt h1 h2) (m : Mono h h1) : Step P ρ h w ρ' h2 w' :=
  s.trans (.refl s.rep q.heap) m q.mono

/-- The value of a result. -/
def resVal (tmps : Array Value) : ResultVar → Sem Value
  | .tmp t => pure (tmps.getD t undef)
  | .cell p t => do loadVar t (← asAddr (tmps.getD p undef))

theorem results_ok {P : Program} {ρ : Ren} {w : World} {tmps : List AV} {a : Act} (hr : RelL ρ tmps a.tmps.toList) : ∀ (rs : List ResultVar) (h h' : Hp) (l : List AV), resultsA P tmps rs h = some (l, h') → Qt h h' ∧ (Obs h' → HeapRep P ρ h.heap w →
    ∃ xs, denL ρ l = some xs ∧ (rs.mapM (resVal a.tmps)).run P w = .ok xs w)
  | [], h, h', l, e => by
    simp only [resultsA] at e; cases e
    exact ⟨.refl _, fun _ _ => ⟨[], rfl, by simp⟩⟩
  | .tmp t :: r, h, h', l, e => by
    simp only [resultsA, nth_eq] at e
    split at e
    · rename_i v hv
      split at e
      · rename_i l' h1 hk hl
        cases e
        obtain ⟨q, o⟩ := results_ok hr r h _ l' hl
        refine ⟨q, fun ho hrep => ?_⟩
        obtain ⟨xs, h1, h2⟩ := o ho hrep
        obtain ⟨x, hx, hrel⟩ := hr.2 t v hv
        have hvt : v ≠ .top := by intro e; subst e; simp [AV.known] at hk
        have hx' : a.tmps[t]? = some x := by simpa using hx
        refine ⟨x :: xs, by simp [denL, relS_den hrel hvt, h1], ?_⟩
        simp only [List.mapM_cons, resVal, Sem.run_bind, Sem.run_pure, Result.andThen_ok, h2, Array.getD_eq_getD_getElem?, hx', Option.getD_some]
      · cases e
    · cases e
  | .cell p t :: r, h, h', l, e => by
    simp only [resultsA, nth_eq] at e
    split at e
    · rename_i v hv
      split at e
      · rename_i v1 h1 hld
        split at e
        · rename_i l' h2 hl
          cases e
          obtain ⟨q1, ht, o1⟩ := loadA_ok (P := P) (ρ := ρ) (w := w) hld
          obtain ⟨q, o⟩ := results_ok hr r h1 _ l' hl
          refine ⟨q1.trans q, fun ho hrep => ?_⟩
          have ho1 : ∀ p ∈ h1.ob, p := fun p hp => ho p (q.ob p hp)
          obtain ⟨xs, g1, g2⟩ := o ho (by rw [q1.heap]; exact hrep)
          obtain ⟨x, hx, hrel⟩ := hr.2 p v hv
          have hvt : v ≠ .top := by intro e'; subst e'; simp [loadA] at hld
          obtain ⟨y, h3, h4⟩ := o1 ho1 hrep x (relS_den hrel hvt)
          have hx' : a.tmps[p]? = some x := by simpa using hx
          refine ⟨y :: xs, by simp [denL, h4, g1], ?_⟩
          have hptr : ∃ ad, x = .pointer (some ad) := by
            cases v <;> simp [loadA] at hld
            obtain ⟨L, _, _, h⟩ := den_ptr (relS_den hrel hvt)
            exact ⟨_, h⟩
          obtain ⟨ad, rfl⟩ := hptr
          simp only [Instr.loadAt, Instr.sureAddr, pure_bind] at h3
          simp only [List.mapM_cons, resVal, Sem.run_bind, Array.getD_eq_getD_getElem?, hx', Option.getD_some, asAddr, Sem.run_pure, Result.andThen_ok, h3, g2]
        · cases e
      · cases e
    · cases e

theorem resultsA_qt {P : Program} {tmps : List AV} : ∀ {rs : List ResultVar} {h h' : Hp} {l : List AV}, resultsA P tmps rs h = some (l, h') → Qt h h'
  | [], h, h', l, e => by simp only [resultsA] at e; cases e; exact .refl _
  | .tmp t :: r, h, h', l, e => by
    simp only [resultsA] at e
    split at e
    · split at e
      · rename_i hl; cases e; exact resultsA_qt hl
      · cases e
    · cases e
  | .cell p t :: r, h, h', l, e => by
    simp only [resultsA] at e
    split at e
    · split at e
      · rename_i h1 hld
        split at e
        · rename_i hl; cases e; exact (loadA_ok (P := P) (ρ := fun _ => none) (w := default) hld).1.trans (resultsA_qt hl)
        · cases e
      · cases e
    · cases e

def oneOrAllV : List Value → Value
  | [x] => x
  | l => .tuple l.toArray

theorem results_run {P : Program} {w : World} {fn : Func} {tmps : Array Value} {xs : List Value} (h : (fn.results.toList.mapM (resVal tmps)).run P w = .ok xs w) :
    (results fn tmps).run P w = .ok (oneOrAllV xs) w := by
  have hm : (fn.results.mapM (resVal tmps)).run P w = .ok xs.toArray w := by
    rw [Array.mapM_eq_mapM_toList, Sem.run_map, h]; rfl
  have he : results fn tmps = (do let vs ← fn.results.mapM (resVal tmps); pure (if h : vs.size = 1 then vs[0] else .tuple vs)) := by
    have hf : (fun r => (match r with
        | .tmp t => pure (tmps.getD t undef)
        | .cell a t => do loadVar t (← asAddr (tmps.getD a undef)) : Sem Value)) = resVal tmps := by funext r; cases r <;> rfl
    rw [← hf]
    rfl
  rw [he]
  simp only [Sem.run_bind, hm]
  simp only [Result.andThen_ok, Sem.run_pure]
  rcases xs with _ | ⟨x, _ | ⟨y, r⟩⟩ <;> simp [oneOrAllV]

theorem oneOrAll_den {ρ : Ren} {l : List AV} {xs : List Value} (h : denL ρ l = some xs) : relS ρ (oneOrAll l) (oneOrAllV xs) := by
  have hlen := denL_length _ _ h
  match l, xs, hlen with
  | [], [], _ => exact .inr (by simp [oneOrAll, oneOrAllV, den, denL])
  | [v], [x], _ =>
    obtain ⟨y, hy, hd⟩ := denL_get _ _ h 0 v rfl
    simp at hy; subst hy
    exact .inr hd
  | v :: u :: r, x :: y :: s, _ => exact .inr (by simp only [oneOrAll, oneOrAllV, den, h])

end Go.Ev

/-
  An operation looks at its operands alone.
-/
set_option linter.unusedSimpArgs false
set_option linter.unusedVariables false
namespace Go.Ev
theorem evAll_congr {t1 t2 : List AV} : ∀ {l : List Operand}, (∀ x ∈ l, evA t1 x = evA t2 x) → evAll t1 l = evAll t2 l
  | [], _ => rfl
  | x :: r, H => by
    simp only [evAll]
    rw [H x (by simp), evAll_congr (fun y hy => H y (by simp [hy]))]
theorem evParts_congr {t1 t2 : List AV} : ∀ {l : List (Nat × Operand)}, (∀ p ∈ l, evA t1 p.2 = evA t2 p.2) → evParts t1 l = evParts t2 l
  | [], _ => rfl
  | (i, x) :: r, H => by
    simp only [evParts]
    rw [H (i, x) (by simp), evParts_congr (fun y hy => H y (by simp [hy]))]
theorem evOpt_congr {t1 t2 : List AV} {o : Option Operand} (H : ∀ x ∈ o, evA t1 x = evA t2 x) : evOpt t1 o = evOpt t2 o := by
  cases o with
  | none => rfl
  | some x => simp only [evOpt]; rw [H x rfl]
theorem callee_congr {P : Program} {t1 t2 : List AV} {op : Op} (H : ∀ x ∈ op.operands.toList, evA t1 x = evA t2 x) : callee P t1 op = callee P t2 op := by
  cases op with
  | call c =>
    obtain ⟨ca, args, ats⟩ := c
    cases ca with
    | value f =>
      have h1 : evA t1 f = evA t2 f := H f (by simp [Op.operands, Call.operands])
      have h2 : evAll t1 args.toList = evAll t2 args.toList := evAll_congr (fun x hx => H x (by simp [Op.operands, Call.operands]; right; simpa using hx))
      simp only [callee, h1, h2]
    | invoke r name =>
      have h1 : evA t1 r = evA t2 r := H r (by simp [Op.operands, Call.operands])
      have h2 : evAll t1 args.toList = evAll t2 args.toList := evAll_congr (fun x hx => H x (by simp [Op.operands, Call.operands]; right; simpa using hx))
      simp only [callee, h1, h2]
    | _ => rfl
  | _ => rfl
theorem op1_congr {P : Program} {t1 t2 : List AV} {op : Op} {h : Hp} (H : ∀ x ∈ op.operands.toList, evA t1 x = evA t2 x) : op1 P t1 op h = op1 P t2 op h := by
  cases op with
  | build t ps =>
    have h1 : evParts t1 ps.toList = evParts t2 ps.toList := evParts_congr (fun p hp => H p.2 (by simp [Op.operands]; exact ⟨p.1, by simpa using hp⟩))
    simp only [op1, h1]
  | buildSlice t n ps =>
    have h1 : evParts t1 ps.toList = evParts t2 ps.toList := evParts_congr (fun p hp => H p.2 (by simp [Op.operands]; exact ⟨p.1, by simpa using hp⟩))
    simp only [op1, h1]
  | makeFunc fn first captured =>
    have h1 : evAll t1 first.toList = evAll t2 first.toList := evAll_congr (fun x hx => H x (by simp [Op.operands]; left; simpa using hx))
    have h2 : evAll t1 captured.toList = evAll t2 captured.toList := evAll_congr (fun x hx => H x (by simp [Op.operands]; right; simpa using hx))
    simp only [op1, h1, h2]
  | slice t x lo hi mx =>
    have h0 : evA t1 x = evA t2 x := H x (by simp [Op.operands])
    have h1 : evOpt t1 lo = evOpt t2 lo := evOpt_congr (fun y hy => H y (by cases hy; simp [Op.operands]))
    have h2 : evOpt t1 hi = evOpt t2 hi := evOpt_congr (fun y hy => H y (by cases hy; simp [Op.operands]))
    have h3 : evOpt t1 mx = evOpt t2 mx := evOpt_congr (fun y hy => H y (by cases hy; simp [Op.operands]))
    simp only [op1, h0, h1, h2, h3]
  | call c =>
    obtain ⟨ca, args, ats⟩ := c
    cases ca with
    | builtin b =>
      have h2 : evAll t1 args.toList = evAll t2 args.toList := evAll_congr (fun x hx => H x (by simp [Op.operands, Call.operands]; simpa using hx))
      simp only [op1, h2]
    | _ => rfl
  | makeMap t r => cases r <;> rfl
  | _ => (try rfl) <;> (simp [Op.operands] at H; simp only [op1, H])
theorem tops_get : ∀ (l : List AV) (j : Nat), (tops l)[j]? = (l[j]?).map (fun _ => AV.top)
  | [], j => by simp [tops]
  | _ :: r, 0 => by simp [tops]
  | _ :: r, j + 1 => by simp [tops, tops_get r j]
theorem tops_length : ∀ (l : List AV), (tops l).length = l.length
  | [] => rfl
  | _ :: r => by simp [tops, tops_length r]
theorem mask_length (looks : List Nat) (l : List AV) (k0 : Nat) : (mask looks l k0).length = l.length := by
  unfold mask
  induction looks with
  | nil => exact tops_length l
  | cons k r ih =>
    simp only [maskOn]
    split
    · split
      · rw [setNth_eq, List.length_set]; exact ih
      · exact ih
    · exact ih
theorem mask_get (looks : List Nat) (l : List AV) (k0 j : Nat) : (mask looks l k0)[j]? = (l[j]?).map (fun v => if mem (k0 + j) looks = true then v else .top) := by
  have hlen := fun r => mask_length r l k0
  unfold mask at hlen ⊢
  induction looks with
  | nil => simp [maskOn, tops_get, mem]
  | cons k r ih =>
    have hm : mem (k0 + j) (k :: r) = if k = k0 + j then true else mem (k0 + j) r := by
      simp only [mem]
      by_cases e : k = k0 + j
      · subst e; simp
      · have : Nat.beq k (k0 + j) = false := by rw [← Bool.not_eq_true, Nat.beq_eq]; exact e
        simp [this, e]
    rw [hm]
    simp only [maskOn]
    split
    · rename_i hb
      have hb : k0 ≤ k := Nat.le_of_ble_eq_true hb
      split
      · rename_i v hv
        rw [nth_eq] at hv
        rw [setNth_eq, List.getElem?_set, ih]
        by_cases e : k - k0 = j
        · have e2 : k = k0 + j := by omega
          have hjl : j < l.length := by rw [← e]; exact (List.getElem?_eq_some_iff.1 hv).1
          have hl2 : j < (maskOn l k0 r).length := by rw [hlen r]; exact hjl
          rw [if_pos e, if_pos (by omega), if_pos e2, ← e, hv]
          simp
        · have e2 : k ≠ k0 + j := by omega
          rw [if_neg e, if_neg e2]
      · rename_i hv
        rw [nth_eq] at hv
        rw [ih]
        by_cases e2 : k = k0 + j
        · have : k - k0 = j := by omega
          rw [this] at hv
          rw [hv]; rfl
        · rw [if_neg e2]
    · rename_i hb
      have hb : ¬ k0 ≤ k := fun e => by rw [Nat.ble_eq_true_of_le e] at hb; cases hb
      rw [ih, if_neg (by omega)]


theorem evA_mask (all : List Oper) (o : Oper) (tmps : List AV) (x : Operand) (hx : x ∈ o.op.operands.toList) : evA (mask (looksAt all o) tmps 0) x = evA tmps x := by
  cases x with
  | tmp t =>
    simp only [evA, nth_eq]
    rw [mask_get, Nat.zero_add]
    have hm : mem t (looksAt all o) = true := by
      rw [mem_iff]
      unfold looksAt
      refine List.mem_append_left _ (List.mem_filterMap.2 ⟨.tmp t, hx, rfl⟩)
    simp [hm]
  | _ => rfl
theorem wantedA_mask (all : List Oper) (o : Oper) (tmps : List AV) : wantedA all (mask (looksAt all o) tmps 0) o = wantedA all tmps o := by
  unfold wantedA
  split
  · rfl
  · rename_i j want hg
    split
    · rfl
    · rename_i d hd
      have hm : mem d (looksAt all o) = true := by
        rw [mem_iff]
        unfold looksAt
        refine List.mem_append_right _ ?_
        rw [hg]; simp [hd]
      have e : nth (mask (looksAt all o) tmps 0) d = nth tmps d := by
        rw [nth_eq, nth_eq, mask_get, Nat.zero_add]; simp [hm]
      rw [e]
theorem oper_mask (all : List Oper) (o : Oper) (tmps : List AV) {E : Env} {n : Nat} {h : Hp} : oper E n (mask (looksAt all o) tmps 0) o.op h = oper E n tmps o.op h := by
  have H := evA_mask all o tmps
  cases n with
  | zero => simp only [oper]
  | succ n =>
    simp only [oper]
    rw [callee_congr H, op1_congr H]
end Go.Ev
