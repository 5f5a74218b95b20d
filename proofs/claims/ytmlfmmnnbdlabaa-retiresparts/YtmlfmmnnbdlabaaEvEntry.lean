/-
  Map entries as operations of their own.
-/
import Derived.Test.YtmlfmmnnbdlabaaEvMaps
set_option linter.unusedSimpArgs false
set_option linter.unusedVariables false
namespace Go.Ev
theorem set_twice {α : Type} : ∀ (l : List (Nat × α)) (k : Nat) (x y : α), set (set l k x) k y = set l k y
  | [], k, x, y => by simp [set]
  | (n, z) :: r, k, x, y => by
    simp only [set]
    split
    · rename_i h; simp [set, h]
    · rename_i h; simp only [set, h, set_twice r k x y]

theorem entry_run {P : Program} {ρ : Ren} {w : World} {t : TypeId} {key : AV} {h : Hp} {ks : List CK} {agg : Bool} {vk : IntKind} {b : Nat} {k : List Int} {f : List Int → Option Int} {z0 : Bool} (hmk : mapKinds P t = some (ks, agg, vk)) (hz : zeroOk P t vk = some z0)
    (hk : keyOf ks agg key = some k) (hg : get h.heap b = some (.map t f)) (hr : HeapRep P ρ h.heap w) {M K : Value} (hM : relS ρ (.map b) M) (hK : relS ρ key K) :
    ∃ L s w1, ρ b = some L ∧ M = .map (some L.blk) ∧ keyWf ks k ∧ (Instr.mapEntry t M K).run P w = .ok (.tuple #[.int vk (mval f k), goInt (s : Nat)]) w1 ∧
      Step P ρ h w ρ (h.put b (.map t (setKey f k (some (mval f k))))) w1 ∧ ∃ es c, w1.heap[L.blk]? = some (.map es c) ∧ ∃ e, e ∈ es.toList ∧ e.key = keyVal ks agg k ∧ e.born = s := by
  have hu : updateA P t (.map b) key (.sym vk (mval f k)) h = some (h.put b (.map t (setKey f k (some (mval f k))))) := by
    simp [updateA, hmk, asI, hk, hg]
  obtain ⟨w', hrun, st⟩ := (update_ok (ρ := ρ) (w := w) hu).2 hr M K (.int vk (mval f k)) hM hK (.inr rfl)
  obtain ⟨kt, et, ty⟩ := mapKinds_ty hmk
  obtain ⟨rfl, hw⟩ := keyOf_den ty hk hK
  have hd := relS_den hM (by simp)
  simp only [den] at hd
  cases hb : ρ b with
  | none => simp [hb] at hd
  | some L =>
    simp only [hb] at hd; cases hd
    obtain ⟨h0, h1, ks', agg', vk', hmk', es, clock, hblk, hbo, kl, hes, hnd, hkw, hf⟩ := hr.obj hg hb
    rw [hmk] at hmk'; cases hmk'
    have hlt : L.blk < w.heap.size := (Array.getElem?_eq_some_iff.1 hblk).1
    have hfind := findKey_ok (w := w) ty hw hes hkw
    have hget : (getObj L.blk).run P w = .ok (.map es clock) w := by simp [getObj, Sem.run, hblk]
    have hchk := checkKey_ok (w := w) ty hw false
    have hzr := zero_run (w := w) ty hz
    have hfk : f k = (findK k kl 0).map (·.2) := by rw [hf k hw, findK_find]
    cases hfo : findK k kl 0 with
    | none =>
      rw [hfo] at hfind hfk
      simp at hfk
      have hmv : mval f k = 0 := by simp [mval, hfk]
      rw [hmv] at hrun st ⊢
      have hW : (Instr.mapUpdate t (.map (some L.blk)) (keyVal ks agg k) (.int vk 0)).run P w = .ok () { w with heap := w.heap.setIfInBounds L.blk (.map (es.push { key := keyVal ks agg k, val := .int vk 0, born := clock }) (clock + 1)) } := by
        simp [Instr.mapUpdate, run_underlying' ty.map, hget, hchk, hfind, run_setObj _ hblk]
      rw [hW] at hrun; cases hrun
      refine ⟨L, clock, _, rfl, rfl, hw, ?_, st, es.push { key := keyVal ks agg k, val := .int vk 0, born := clock }, clock + 1, by simp [hlt], { key := keyVal ks agg k, val := .int vk 0, born := clock }, by simp, rfl, rfl⟩
      simp [Instr.mapEntry, run_underlying' ty.map, hget, hchk, hfind, hzr, run_setObj _ hblk]
    | some p =>
      obtain ⟨i, n0⟩ := p
      rw [hfo] at hfind hfk
      simp at hfk
      have hmv : mval f k = n0 := by simp [mval, hfk]
      rw [hmv] at hrun st ⊢
      obtain ⟨_, hi⟩ := findK_some kl 0 i n0 hfo
      simp only [Nat.sub_zero] at hi
      have hi2 : (es.toList.map (fun e => (e.key, e.val)))[i]? = some (keyVal ks agg k, .int vk n0) := by rw [hes]; simp [hi]
      simp only [List.getElem?_map] at hi2
      cases hei : es.toList[i]? with
      | none => simp [hei] at hi2
      | some e0 =>
        simp [hei] at hi2
        have hei' : es[i]? = some e0 := by simpa using hei
        have hilt : i < es.size := (Array.getElem?_eq_some_iff.1 hei').1
        have hstay : (Instr.keyThatStays (((es[i]?).map (·.key)).getD (keyVal ks agg k)) (keyVal ks agg k)).run P w = .ok (keyVal ks agg k) w := by
          simp [Instr.keyThatStays, hei', hi2.1, sameBits_key ty hw]
        have hW : (Instr.mapUpdate t (.map (some L.blk)) (keyVal ks agg k) (.int vk n0)).run P w = .ok () { w with heap := w.heap.setIfInBounds L.blk (.map (es.modify i fun e => { e with key := keyVal ks agg k, val := .int vk n0 }) clock) } := by
          simp only [Instr.mapUpdate, Sem.run_bind, run_underlying' ty.map, Result.andThen_ok, hget, hchk, hfind, Option.map_some, hstay, run_setObj _ hblk]
        rw [hW] at hrun; cases hrun
        have hmod : (es.modify i fun e => { e with key := keyVal ks agg k }) = es.modify i fun e => { e with key := keyVal ks agg k, val := .int vk n0 } := by
          apply Array.ext_getElem?
          intro j
          simp only [Array.getElem?_modify]
          by_cases hj : i = j
          · subst hj; simp [hei', ← hi2.2]
          · simp [hj]
        refine ⟨L, e0.born, _, rfl, rfl, hw, ?_, st, es.modify i fun e => { e with key := keyVal ks agg k, val := .int vk n0 }, clock, by simp [hlt], { e0 with key := keyVal ks agg k, val := .int vk n0 }, ?_, rfl, rfl⟩
        · simp only [Instr.mapEntry, Sem.run_bind, run_underlying' ty.map, Result.andThen_ok, hget, hchk, hfind, Option.map_some, hstay, run_setObj _ hblk, Sem.run_pure, hmod]
          simp [hei']
        · refine List.mem_of_getElem? (i := i) ?_
          simp [Array.getElem?_modify, hei']

theorem add_twice (b : Nat) (l : List Nat) : add b (add b l) = add b l := by
  have : mem b (add b l) = true := (mem_iff b _).2 (mem_add.2 (.inl rfl))
  rw [add, this]

theorem entryA_ok {P : Program} {ρ : Ren} {w : World} {t : TypeId} {m key r : AV} {h h' : Hp} (e : entryA P t m key h = some (r, h')) :
    Mono h h' ∧ r ≠ .top ∧ (Fresh ρ h.nxt h.hi → HeapRep P ρ h.heap w → ∀ M K, relS ρ m M → relS ρ key K → ∃ ρ' x w', (Instr.mapEntry t M K).run P w = .ok x w' ∧ den ρ' r = some x ∧ Step P ρ h w ρ' h' w') := by
  unfold entryA at e
  split at e
  · rename_i ks agg vk b hmk
    split at e
    · rename_i z0 k t' f hz hk hg hlt
      split at e
      · rename_i htt
        have htt := Nat.eq_of_beq_eq_true htt; subst htt
        have hlt : h.nxt < h.hi := by simpa [Nat.blt_eq] using hlt
        cases e
        refine ⟨⟨fun p x => x, Nat.le_succ _, rfl, fun n x => mem_add.2 (.inr x)⟩, by simp, fun hf hr M K hM hK => ?_⟩
        obtain ⟨L, s, w1, hb, rfl, hw, hrun, st, es, c, hblk, e0, he1, he2, he3⟩ := entry_run hmk hz hk hg hr hM hK
        let f1 := setKey f k (some (mval f k))
        let h1 := h.put b (.map t f1)
        let ls : Loc := ⟨s, 0, 0, 0, false⟩
        have st2 := name_step (h := h1) st.rep hf hlt ls rfl
        have hn : ρ h.nxt = none := hf _ (Nat.le_refl _) hlt
        have hbn : b ≠ h.nxt := fun x => by rw [x, hn] at hb; cases hb
        have hb' : (ρ.set h.nxt ls) b = some L := by rw [Ren.set_ne hbn]; exact hb
        have hg1 : get h1.heap b = some (.map t f1) := by simp [h1, Hp.put, get_set]
        obtain ⟨l', hl', ho⟩ := st2.rep.1 b _ hg1
        rw [show (ρ.set h1.nxt ls) = ρ.set h.nxt ls from rfl, hb'] at hl'; cases hl'
        obtain ⟨h0, hc, ks', agg', vk', hmk', es', clock, hblk', hbo, hm⟩ := ho
        rw [hmk] at hmk'; cases hmk'
        rw [hblk] at hblk'; cases hblk'
        have st3 := put_step (h := { h1 with nxt := h1.nxt + 1 }) (w' := w1) (o' := .mapP t f1 h.nxt k) st2.rep hg1 rfl rfl hb' hc (fun _ _ => rfl) (Nat.le_refl _) rfl rfl rfl
          ⟨h0, hc, ks, agg, vk, hmk, hw, es, c, hblk, hbo, hm, ls, e0, Ren.set_same _ _ _, he1, he2, he3⟩
        have m1 : Mono h h1 := put_mono _ _ _
        have m2 : Mono h1 { h1 with nxt := h1.nxt + 1 } := ⟨fun p x => x, Nat.le_succ _, rfl, fun n x => x⟩
        have st4 := (st.trans st2 m1 m2).trans st3 (m1.trans m2) (put_mono _ _ _)
        refine ⟨ρ.set h.nxt ls, _, w1, hrun, ?_, ?_⟩
        · simp [den, denL, Ren.set_same, ls]
        · have : ({ h1 with nxt := h1.nxt + 1 } : Hp).put b (.mapP t f1 h.nxt k) = { (h.put b (.mapP t f1 h.nxt k)) with nxt := h.nxt + 1 } := by
            simp [h1, Hp.put, set_twice, add_twice]
          rw [this] at st4
          exact st4
      · cases e
    · cases e
  · cases e

theorem keyCells_inj : ∀ (ks : List CK) (l l' : List Int), keyWf ks l → keyWf ks l' → keyCells ks l = keyCells ks l' → l = l'
  | [], [], [], _, _, _ => rfl
  | [], _ :: _, _, h, _, _ => by simp [keyWf] at h
  | [], [], _ :: _, _, h, _ => by simp [keyWf] at h
  | .int _ :: _, [], _, h, _, _ => by simp [keyWf] at h
  | .int _ :: _, _ :: _, [], _, h, _ => by simp [keyWf] at h
  | .bool :: _, [], _, h, _, _ => by simp [keyWf] at h
  | .bool :: _, _ :: _, [], _, h, _ => by simp [keyWf] at h
  | .val :: _, [], _, h, _, _ => by simp [keyWf] at h
  | .val :: _, _ :: _, _, h, _, _ => by simp [keyWf] at h
  | .int k :: ks, n :: ns, n' :: ns', h, h', e => by
    simp only [keyCells, cellKey, List.cons.injEq, Value.int.injEq, true_and] at e
    rw [e.1, keyCells_inj ks ns ns' h h' e.2]
  | .bool :: ks, n :: ns, n' :: ns', h, h', e => by
    simp only [keyCells, cellKey, List.cons.injEq, Value.bool.injEq] at e
    rw [keyCells_inj ks ns ns' h.2 h'.2 e.2]
    have : n = n' := by
      rcases h.1 with rfl | rfl <;> rcases h'.1 with rfl | rfl <;> simp at e <;> rfl
    rw [this]

theorem keyVal_inj {P : Program} {t kt et : TypeId} {ks : List CK} {agg : Bool} {vk : IntKind} (ty : MapTy P t ks agg vk kt et) {k k' : List Int} (h : keyWf ks k) (h' : keyWf ks k') (e : keyVal ks agg k = keyVal ks agg k') : k = k' := by
  rcases ty.key with ⟨kk, hu, rfl, rfl⟩ | ⟨fs, hu, rfl, hs, hl⟩
  · match k, k', h, h' with
    | [m], [m'], _, _ => simpa [keyVal, keyCells, cellKey] using e
    | [], _, h, _ => simp [keyWf] at h
    | _ :: _ :: _, _, h, _ => simp [keyWf] at h
    | [_], [], _, h => simp [keyWf] at h
    | [_], _ :: _ :: _, _, h => simp [keyWf] at h
  · exact keyCells_inj ks k k' h h' (by simpa [keyVal] using e)

/-- An entry's value is set: what the map says then. -/
theorem rep_set {ks : List CK} {agg : Bool} {vk : IntKind} {es : Array MapEntry} {f : List Int → Option Int} {kl : List (List Int × Int)} {i : Nat} {k : List Int} {n0 n : Int} {e0 : MapEntry}
    (hes : es.toList.map (fun e => (e.key, e.val)) = kl.map (fun x => (keyVal ks agg x.1, Value.int vk x.2))) (hnd : (kl.map (·.1)).Nodup) (hkw : ∀ x ∈ kl, keyWf ks x.1) (hf : ∀ k, keyWf ks k → f k = (kl.find? (fun x => x.1 == k)).map (·.2))
    (hi : kl[i]? = some (k, n0)) (hei : es[i]? = some e0) (hek : e0.key = keyVal ks agg k) : MapRep ks agg vk (es.modify i fun e => { e with val := .int vk n }).toList (setKey f k (some n)) := by
  have hw : keyWf ks k := hkw (k, n0) (List.mem_of_getElem? hi)
  have hkl : ∀ (j : Nat), (kl.modify i (fun x => (k, n)))[j]? = if j = i then some (k, n) else kl[j]? := by
    intro j
    rw [List.getElem?_modify]
    by_cases hj : j = i
    · subst hj; simp [hi]
    · simp [hj, Ne.symm hj]
  have hfst : (kl.modify i (fun x => (k, n))).map (·.1) = kl.map (·.1) := by
    refine List.ext_getElem? fun j => ?_
    rw [List.getElem?_map, hkl, List.getElem?_map]
    by_cases hj : j = i
    · subst hj; simp [hi]
    · simp [hj]
  refine ⟨kl.modify i (fun x => (k, n)), ?_, by rw [hfst]; exact hnd, ?_, fun k' hk' => ?_⟩
  · refine List.ext_getElem? fun j => ?_
    have hj0 : (es.toList.map (fun e => (e.key, e.val)))[j]? = (kl.map (fun x => (keyVal ks agg x.1, Value.int vk x.2)))[j]? := by rw [hes]
    simp only [List.getElem?_map] at hj0 ⊢
    rw [hkl, Array.getElem?_toList, Array.getElem?_modify]
    by_cases hj : j = i
    · subst hj; simp [hei, hek]
    · simp only [hj, if_false, Ne.symm hj]
      simpa using hj0
  · intro x hx
    obtain ⟨j, hj⟩ := List.mem_iff_getElem?.1 hx
    rw [hkl] at hj
    split at hj
    · cases hj; exact hw
    · exact hkw x (List.mem_of_getElem? hj)
  · simp only [setKey]
    by_cases hkk : k' = k
    · subst hkk
      rw [if_pos rfl, find_map_eq (i := i) (n := n) (by rw [hfst]; exact hnd) (by rw [hkl, if_pos rfl])]
      rfl
    · rw [if_neg hkk, hf k' hk']
      cases hfk : kl.find? (fun x => x.1 == k') with
      | none =>
        have : (kl.modify i (fun x => (k, n))).find? (fun x => x.1 == k') = none := by
          rw [List.find?_eq_none] at hfk ⊢
          intro x hx
          obtain ⟨j, hj⟩ := List.mem_iff_getElem?.1 hx
          rw [hkl] at hj
          split at hj
          · cases hj; simpa using Ne.symm hkk
          · exact hfk x (List.mem_of_getElem? hj)
        rw [this]
      | some x =>
        have hx := List.find?_some hfk
        have hx1 : x.1 = k' := by simpa using hx
        obtain ⟨j, hj⟩ := List.mem_iff_getElem?.1 (List.mem_of_find?_eq_some hfk)
        have hji : j ≠ i := by
          intro e; subst e; rw [hi] at hj; cases hj; exact hkk hx1.symm
        obtain ⟨x1, x2⟩ := x
        simp only at hx1; subst hx1
        rw [find_map_eq (i := j) (n := x2) (by rw [hfst]; exact hnd) (by rw [hkl, if_neg hji]; exact hj)]

theorem entryStoreA_ok {P : Program} {ρ : Ren} {w : World} {t : TypeId} {m s v : AV} {h h' : Hp} (e : entryStoreA P t m s v h = some h') :
    Mono h h' ∧ (HeapRep P ρ h.heap w → ∀ M S V, relS ρ m M → relS ρ s S → relS ρ v V → ∃ w', (Instr.entryStore t M S V).run P w = .ok () w' ∧ Step P ρ h w ρ h' w') := by
  unfold entryStoreA at e
  split at e
  · rename_i ks agg vk b n vk' c x hmk hv
    split at e
    · rename_i t' f n' k hg hvk
      split at e
      · rename_i htt hnn
        have htt := Nat.eq_of_beq_eq_true htt; subst htt
        have hnn := Nat.eq_of_beq_eq_true hnn; subst hnn
        have hvk := of_decide_eq_true hvk; subst hvk
        cases e
        refine ⟨put_mono _ _ _, fun hr M S V hM hS hV => ?_⟩
        obtain ⟨kt, et, ty⟩ := mapKinds_ty hmk
        obtain ⟨hv1, hv2⟩ := asI_den (ρ := ρ) hv
        have := relS_den hV hv2; rw [hv1] at this; cases this
        obtain ⟨L, hb, h0, hc, ks', agg', vk', hmk', hw, es, clock, hblk, hbo, hm, ls, e0, hls, hmem, hek, heb⟩ := hr.1 b _ hg
        rw [hmk] at hmk'; cases hmk'
        have hd := relS_den hM (by simp)
        simp only [den, hb] at hd; cases hd
        have hs := relS_den hS (by simp)
        simp only [den, hls] at hs; cases hs
        have hlt : L.blk < w.heap.size := (Array.getElem?_eq_some_iff.1 hblk).1
        obtain ⟨kl, hes, hnd, hkw, hf⟩ := hm
        obtain ⟨i, hei⟩ := List.mem_iff_getElem?.1 hmem
        have hei' : es[i]? = some e0 := by simpa using hei
        have hilt : i < es.size := (Array.getElem?_eq_some_iff.1 hei').1
        have hei2 : es[i] = e0 := (Array.getElem?_eq_some_iff.1 hei').2
        have hi2 : (es.toList.map (fun e => (e.key, e.val)))[i]? = some (e0.key, e0.val) := by simp [hei']
        rw [hes, List.getElem?_map] at hi2
        cases hki : kl[i]? with
        | none => simp [hki] at hi2
        | some p =>
          obtain ⟨k1, n0⟩ := p
          simp [hki] at hi2
          have hk1 : k1 = k := keyVal_inj ty (hkw _ (List.mem_of_getElem? hki)) hw (hi2.1.trans hek)
          subst hk1
          have hidx : es.findIdx? (fun e => (e.born : Int) == (ls.blk : Int)) = some i := by
            rw [Array.findIdx?_eq_some_iff_getElem]
            refine ⟨hilt, by rw [hei2, heb]; simp, fun j hj => ?_⟩
            have hjs : j < es.size := by omega
            simp only [beq_iff_eq, Int.natCast_inj]
            intro hbe
            have q1 : (es.toList.map (·.born))[j]? = some es[j].born := by simp [hjs]
            have q2 : (es.toList.map (·.born))[i]? = some es[j].born := by rw [List.getElem?_map, hei]; simp [hbe, heb]
            have := (List.getElem?_inj (List.getElem?_eq_some_iff.1 q1).1 hbo.2).1 (q1.trans q2.symm)
            omega
          have hget : (getObj L.blk).run P w = .ok (.map es clock) w := by simp [getObj, Sem.run, hblk]
          refine ⟨{ w with heap := w.heap.setIfInBounds L.blk (.map (es.modify i fun e => { e with val := .int vk x }) clock) }, ?_, ?_⟩
          · simp only [Instr.entryStore, Sem.run_bind, Result.andThen_ok, hget, asInt, asIntOf, goInt, Sem.run_pure, hidx, run_setObj _ hblk]
          · exact put_step hr hg rfl rfl hb hc (fun q hq => by simp [Array.getElem?_setIfInBounds_ne (Ne.symm hq)]) (by simp) rfl rfl rfl
              ⟨h0, hc, ks, agg, vk, hmk, es.modify i fun e => { e with val := .int vk x }, clock, by simp [hlt], born_modify hbo (fun _ => rfl), rep_set hes hnd hkw hf hki hei' hek⟩
      · cases e
    · cases e
  · cases e
end Go.Ev
