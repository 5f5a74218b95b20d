/-
  Maps: the soundness of the evaluator, seventh part.
-/
import Derived.Test.YtmndhjodbnojdaaDoorEvOps2
set_option linter.unusedSimpArgs false
set_option linter.unusedVariables false
namespace Go.Ev

/-! ### keys -/
theorem keyInt_den {ρ : Ren} {k : CK} {v : AV} {c : Bool} {n : Int} {x : Value} (e : keyInt k v = some (c, n)) (hx : den ρ v = some x) : x = cellKey k n ∧ (k = .bool → n = 0 ∨ n = 1) ∧ k ≠ .val := by
  unfold keyInt at e
  split at e
  · split at e
    · rename_i hk; cases e; have := of_decide_eq_true hk; subst this
      simp [den] at hx; subst hx; exact ⟨rfl, by simp, by simp⟩
    · cases e
  · split at e
    · rename_i hk; cases e; have := of_decide_eq_true hk; subst this
      simp [den] at hx; subst hx; exact ⟨rfl, by simp, by simp⟩
    · cases e
  · rename_i b; cases e; simp [den] at hx; subst hx
    cases b <;> simp [cellKey]
  · rename_i b; cases e; simp [den] at hx; subst hx
    cases b <;> simp [cellKey]
  · cases e

theorem keyInts_den {ρ : Ren} : ∀ (ks : List CK) (vs : List AV) (l : List Int) (xs : List Value), keyInts ks vs = some l → denL ρ vs = some xs → xs = keyCells ks l ∧ keyWf ks l
  | [], [], l, xs, e, h => by simp [keyInts] at e; subst e; simp [denL] at h; subst h; exact ⟨rfl, trivial⟩
  | [], _ :: _, l, xs, e, h => by simp [keyInts] at e
  | _ :: _, [], l, xs, e, h => by simp [keyInts] at e
  | k :: ks, v :: vs, l, xs, e, h => by
    simp only [keyInts] at e
    split at e
    · rename_i c n l' hk hl
      cases e
      simp only [denL] at h
      cases hv : den ρ v with
      | none => simp [hv] at h
      | some v' => cases hr : denL ρ vs with
        | none => simp [hv, hr] at h
        | some r' =>
          rw [hv, hr] at h; cases h
          obtain ⟨a, b, c⟩ := keyInt_den hk hv
          obtain ⟨a', b'⟩ := keyInts_den ks vs l' r' hl hr
          refine ⟨by simp [keyCells, a, a'], ?_⟩
          cases k with
          | int k => exact b'
          | bool => exact ⟨b rfl, b'⟩
          | val => exact absurd rfl c
    · cases e

theorem keyCells_length : ∀ (ks : List CK) (l : List Int), keyWf ks l → (keyCells ks l).length = ks.length ∧ l.length = ks.length
  | [], [], _ => ⟨rfl, rfl⟩
  | [], _ :: _, h => by simp [keyWf] at h
  | .int _ :: _, [], h => by simp [keyWf] at h
  | .bool :: _, [], h => by simp [keyWf] at h
  | .val :: _, [], h => by simp [keyWf] at h
  | .int k :: ks, n :: ns, h => by have := keyCells_length ks ns h; simp [keyCells, this]
  | .bool :: ks, n :: ns, h => by have := keyCells_length ks ns h.2; simp [keyCells, this]
  | .val :: ks, n :: ns, h => by simp [keyWf] at h

/-- What a map's type says. -/
structure MapTy (P : Program) (t : TypeId) (ks : List CK) (agg : Bool) (vk : IntKind) (kt et : TypeId) : Prop where
  map : P.underlying t = some (.map kt et)
  elem : P.underlying et = some (.int vk)
  key : (∃ kk, P.underlying kt = some (.int kk) ∧ ks = [.int kk] ∧ agg = false) ∨ (∃ fs, P.underlying kt = some (.struct fs) ∧ agg = true ∧ P.stoodInHeld kt = false ∧ keyKinds P fs.toList 0 = some ks)

theorem mapKinds_ty {P : Program} {t : TypeId} {ks : List CK} {agg : Bool} {vk : IntKind} (e : mapKinds P t = some (ks, agg, vk)) : ∃ kt et, MapTy P t ks agg vk kt et := by
  unfold mapKinds at e
  split at e
  · rename_i k el hu
    split at e
    · rename_i vk' hv
      split at e
      · rename_i kk hk; cases e; exact ⟨k, el, hu, hv, .inl ⟨kk, hk, rfl, rfl⟩⟩
      · rename_i fs hk
        split at e
        · rename_i l hs hl; cases e; exact ⟨k, el, hu, hv, .inr ⟨fs, hk, rfl, hs, hl⟩⟩
        · cases e
      · cases e
    · cases e
  · cases e

theorem keyOf_den {P : Program} {t kt et : TypeId} {ρ : Ren} {ks : List CK} {agg : Bool} {vk : IntKind} (ty : MapTy P t ks agg vk kt et) {v : AV} {k : List Int} {x : Value} (e : keyOf ks agg v = some k) (hx : relS ρ v x) : x = keyVal ks agg k ∧ keyWf ks k := by
  unfold keyOf at e
  split at e
  · obtain ⟨xs, hxs, rfl⟩ := den_agg (relS_den hx (by simp))
    obtain ⟨rfl, hw⟩ := keyInts_den _ _ _ _ e hxs
    exact ⟨rfl, hw⟩
  · cases e
  · rename_i hne
    rcases ty.key with ⟨kk, _, rfl, _⟩ | ⟨fs, _, h, _⟩
    · have hvt : v ≠ .top := by
        intro h; subst h; simp [keyInts, keyInt] at e
      have hd := relS_den hx hvt
      obtain ⟨h1, hw⟩ := keyInts_den (ρ := ρ) [.int kk] [v] k [x] e (by simp [denL, hd])
      refine ⟨?_, hw⟩
      simp [keyVal, ← h1]
    · cases h
  · cases e

theorem run_part_cell {P : Program} {w : World} {t : TypeId} {xs : Array Value} {off : Nat} {v : Value} (ha : isAggT P t = some false) (hv : xs[off]? = some v) : (part t xs off).run P w = .ok v w := by
  simp [part, run_isAgg ha, hv]

theorem eqFields_key {P : Program} {w : World} {d : Nat} : ∀ (fs : List Field) (off : Nat) (ks : List CK) (k k' : List Int) (pre pre' : List Value), keyKinds P fs off = some ks → pre.length = off → pre'.length = off → keyWf ks k → keyWf ks k' →
    (Op.eqFields (d + 1) (pre ++ keyCells ks k).toArray (pre' ++ keyCells ks k').toArray fs).run P w = .ok (k == k') w
  | [], off, ks, k, k', pre, pre', e, _, _, hk, hk' => by
    simp only [keyKinds] at e; cases e
    cases k <;> simp [keyWf] at hk
    cases k' <;> simp [keyWf] at hk'
    simp [Op.eqFields]
  | f :: r, off, ks, k, k', pre, pre', e, hp, hp', hk, hk' => by
    simp only [keyKinds] at e
    split at e
    · rename_i kk hn ho hu hs
      split at e
      · rename_i l hl
        cases e
        have ho := Nat.eq_of_beq_eq_true ho
        cases k with
        | nil => simp [keyWf] at hk
        | cons n ns => cases k' with
          | nil => simp [keyWf] at hk'
          | cons n' ns' =>
            have ha : isAggT P f.type = some false := by simp [isAggT, hu]
            have h1 : (pre ++ keyCells (.int kk :: l) (n :: ns)).toArray[f.offset]? = some (.int kk n) := by rw [ho]; simp [keyCells, cellKey, ← hp]
            have h2 : (pre' ++ keyCells (.int kk :: l) (n' :: ns')).toArray[f.offset]? = some (.int kk n') := by rw [ho]; simp [keyCells, cellKey, ← hp']
            simp only [Op.eqFields]
            rw [if_pos (of_decide_eq_true hn)]
            simp only [Sem.run_bind, run_part_cell ha h1, run_part_cell ha h2, Result.andThen_ok, run_equalIn_int w d f.type _ _ _ _ hu]
            have ih := eqFields_key (P := P) (w := w) (d := d) r (off + 1) l ns ns' (pre ++ [.int kk n]) (pre' ++ [.int kk n']) hl (by simp [hp]) (by simp [hp']) hk hk'
            simp only [List.append_assoc, List.singleton_append] at ih
            by_cases hnn : n = n'
            · subst hnn
              simp [keyCells, cellKey] at ih ⊢
              exact ih
            · have : (n == n') = false := by simpa using hnn
              simp [this, hnn]
      · cases e
    · rename_i hn ho hu hs
      split at e
      · rename_i l hl
        cases e
        have ho := Nat.eq_of_beq_eq_true ho
        cases k with
        | nil => simp [keyWf] at hk
        | cons n ns => cases k' with
          | nil => simp [keyWf] at hk'
          | cons n' ns' =>
            have ha : isAggT P f.type = some false := by simp [isAggT, hu]
            have h1 : (pre ++ keyCells (.bool :: l) (n :: ns)).toArray[f.offset]? = some (.bool (n == 1)) := by rw [ho]; simp [keyCells, cellKey, ← hp]
            have h2 : (pre' ++ keyCells (.bool :: l) (n' :: ns')).toArray[f.offset]? = some (.bool (n' == 1)) := by rw [ho]; simp [keyCells, cellKey, ← hp']
            simp only [Op.eqFields]
            rw [if_pos (of_decide_eq_true hn)]
            simp only [Sem.run_bind, run_part_cell ha h1, run_part_cell ha h2, Result.andThen_ok, run_equalIn_bool' w d f.type _ _ hu]
            have ih := eqFields_key (P := P) (w := w) (d := d) r (off + 1) l ns ns' (pre ++ [.bool (n == 1)]) (pre' ++ [.bool (n' == 1)]) hl (by simp [hp]) (by simp [hp']) hk.2 hk'.2
            simp only [List.append_assoc, List.singleton_append] at ih
            rcases hk.1 with rfl | rfl <;> rcases hk'.1 with rfl | rfl
            · simp [keyCells, cellKey] at ih ⊢; exact ih
            · simp
            · simp
            · simp [keyCells, cellKey] at ih ⊢; exact ih
      · cases e
    · cases e

theorem equal_key {P : Program} {w : World} {t kt et : TypeId} {ks : List CK} {agg : Bool} {vk : IntKind} (ty : MapTy P t ks agg vk kt et) {k k' : List Int} (hk : keyWf ks k) (hk' : keyWf ks k') :
    (Op.equal kt (keyVal ks agg k) (keyVal ks agg k')).run P w = .ok (k == k') w := by
  have key : ∀ d, (Op.equalIn (d + 2) kt (keyVal ks agg k) (keyVal ks agg k')).run P w = .ok (k == k') w := by
    intro d
    rcases ty.key with ⟨kk, hu, rfl, rfl⟩ | ⟨fs, hu, rfl, hs, hl⟩
    · match k, k', hk, hk' with
      | [n], [n'], _, _ =>
        simp only [keyVal, keyCells, cellKey]
        rw [run_equalIn_int w (d + 1) kt _ _ _ _ hu]
        simp
      | [], _, h, _ => simp [keyWf] at h
      | _ :: _ :: _, _, h, _ => simp [keyWf] at h
      | [_], [], _, h => simp [keyWf] at h
      | [_], _ :: _ :: _, _, h => simp [keyWf] at h
    · have hfo : P.fieldsOf kt = fs := by simp [Program.fieldsOf, hu]
      simp only [keyVal]
      rw [run_equalIn_struct w (d + 1) kt _ _ (by rw [hfo]; exact hu) hs, hfo]
      exact eqFields_key fs.toList 0 ks k k' [] [] hl rfl rfl hk hk'
  exact key 9998

theorem checkFields_ok {P : Program} {w : World} {em : Bool} {n : Nat} : ∀ (fs : List Field) (off : Nat) (ks : List CK) (k : List Int) (pre : List Value), keyKinds P fs off = some ks → pre.length = off → keyWf ks k →
    (forIn fs PUnit.unit (fun f (_ : PUnit) => (do if f.name ≠ "_" then Instr.checkKey em (n + 1) f.type (← part f.type (pre ++ keyCells ks k).toArray f.offset)
                                                      pure (ForInStep.yield PUnit.unit) : Sem (ForInStep PUnit)))).run P w = .ok PUnit.unit w
  | [], off, ks, k, pre, e, _, hk => by simp
  | f :: r, off, ks, k, pre, e, hp, hk => by
    simp only [keyKinds] at e
    split at e
    · rename_i kk hn ho hu hs
      split at e
      · rename_i l hl
        cases e
        have ho := Nat.eq_of_beq_eq_true ho
        cases k with
        | nil => simp [keyWf] at hk
        | cons m ns =>
          have ha : isAggT P f.type = some false := by simp [isAggT, hu]
          have h1 : (pre ++ keyCells (.int kk :: l) (m :: ns)).toArray[f.offset]? = some (.int kk m) := by rw [ho]; simp [keyCells, cellKey, ← hp]
          have ih := checkFields_ok (P := P) (w := w) (em := em) (n := n) r (off + 1) l ns (pre ++ [.int kk m]) hl (by simp [hp]) hk
          simp only [List.append_assoc, List.singleton_append] at ih
          simp only [List.forIn_cons, Sem.run_bind]
          rw [if_pos (of_decide_eq_true hn)]
          simp only [Sem.run_bind, run_part_cell ha h1, Result.andThen_ok, Instr.checkKey, run_underlying' hu, Sem.run_pure]
          exact ih
      · cases e
    · rename_i hn ho hu hs
      split at e
      · rename_i l hl
        cases e
        have ho := Nat.eq_of_beq_eq_true ho
        cases k with
        | nil => simp [keyWf] at hk
        | cons m ns =>
          have ha : isAggT P f.type = some false := by simp [isAggT, hu]
          have h1 : (pre ++ keyCells (.bool :: l) (m :: ns)).toArray[f.offset]? = some (.bool (m == 1)) := by rw [ho]; simp [keyCells, cellKey, ← hp]
          have ih := checkFields_ok (P := P) (w := w) (em := em) (n := n) r (off + 1) l ns (pre ++ [.bool (m == 1)]) hl (by simp [hp]) hk.2
          simp only [List.append_assoc, List.singleton_append] at ih
          simp only [List.forIn_cons, Sem.run_bind]
          rw [if_pos (of_decide_eq_true hn)]
          simp only [Sem.run_bind, run_part_cell ha h1, Result.andThen_ok, Instr.checkKey, run_underlying' hu, Sem.run_pure]
          exact ih
      · cases e
    · cases e

theorem checkKey_ok {P : Program} {w : World} {t kt et : TypeId} {ks : List CK} {agg : Bool} {vk : IntKind} (ty : MapTy P t ks agg vk kt et) {k : List Int} (hk : keyWf ks k) (em : Bool) :
    (Instr.checkKey em 10000 kt (keyVal ks agg k)).run P w = .ok () w := by
  have key : ∀ n d, n = d + 1 → (Instr.checkKey em (n + 1) kt (keyVal ks agg k)).run P w = .ok () w := by
    intro n d hn
    rcases ty.key with ⟨kk, hu, rfl, rfl⟩ | ⟨fs, hu, rfl, hs, hl⟩
    · match k, hk with
      | [n], _ => simp [keyVal, keyCells, cellKey, Instr.checkKey, run_underlying' hu]
      | [], h => simp [keyWf] at h
      | _ :: _ :: _, h => simp [keyWf] at h
    · have := checkFields_ok (P := P) (w := w) (em := em) (n := d) fs.toList 0 ks k [] hl rfl hk
      simp only [List.nil_append] at this
      simp only [keyVal, Instr.checkKey, Sem.run_bind, run_underlying' hu, Result.andThen_ok]
      rw [← Array.forIn_toList, hn, this]
      rfl
  exact key 9999 9998 rfl

/-! ### what is found -/
def findK (k : List Int) : List (List Int × Int) → Nat → Option (Nat × Int)
  | [], _ => none
  | x :: r, i => if x.1 == k then some (i, x.2) else findK k r (i + 1)

theorem findK_find {k : List Int} : ∀ (kl : List (List Int × Int)) (i : Nat), (findK k kl i).map (·.2) = (kl.find? (fun x => x.1 == k)).map (·.2)
  | [], i => rfl
  | x :: r, i => by
    simp only [findK, List.find?_cons]
    by_cases h : (x.1 == k) = true
    · simp [h]
    · simp only [h, if_false, Bool.false_eq_true]; exact findK_find r (i + 1)

theorem findK_some {k : List Int} : ∀ (kl : List (List Int × Int)) (i j : Nat) (n : Int), findK k kl i = some (j, n) → i ≤ j ∧ kl[j - i]? = some (k, n)
  | [], i, j, n, h => by simp [findK] at h
  | x :: r, i, j, n, h => by
    simp only [findK] at h
    split at h
    · rename_i hx; cases h; have : x.1 = k := by simpa using hx
      subst this; simp
    · obtain ⟨h1, h2⟩ := findK_some r (i + 1) j n h
      refine ⟨by omega, ?_⟩
      rw [show j - i = (j - (i + 1)) + 1 by omega, List.getElem?_cons_succ]; exact h2

theorem findK_none {k : List Int} : ∀ (kl : List (List Int × Int)) (i : Nat), findK k kl i = none → ∀ x ∈ kl, x.1 ≠ k
  | [], i, h, x, hx => by simp at hx
  | y :: r, i, h, x, hx => by
    simp only [findK] at h
    split at h
    · cases h
    · rename_i hy
      rcases List.mem_cons.1 hx with rfl | hx
      · intro e; exact hy (by simpa using e)
      · exact findK_none r (i + 1) h x hx

theorem findAsking_ok {P : Program} {w : World} {t kt et : TypeId} {ks : List CK} {agg : Bool} {vk : IntKind} (ty : MapTy P t ks agg vk kt et) {k : List Int} (hk : keyWf ks k) :
    ∀ (es : List MapEntry) (kl : List (List Int × Int)) (i : Nat), es.map (fun e => (e.key, e.val)) = kl.map (fun x => (keyVal ks agg x.1, .int vk x.2)) → (∀ x ∈ kl, keyWf ks x.1) →
      (Instr.findAsking kt (keyVal ks agg k) es i).run P w = .ok ((findK k kl i).map (fun r => (r.1, .int vk r.2))) w
  | [], [], i, _, _ => by simp [Instr.findAsking, findK]
  | [], _ :: _, i, h, _ => by simp at h
  | _ :: _, [], i, h, _ => by simp at h
  | e :: es, x :: kl, i, h, hw => by
    simp only [List.map_cons, List.cons.injEq, Prod.mk.injEq] at h
    obtain ⟨⟨h1, h2⟩, h3⟩ := h
    have heq := equal_key (w := w) ty hk (hw x (List.mem_cons_self ..))
    simp only [Instr.findAsking, Sem.run_bind, h1, heq, Result.andThen_ok, findK]
    by_cases hkx : k = x.1
    · subst hkx; simp [h2]
    · have e1 : (k == x.1) = false := by simpa using hkx
      have e2 : (x.1 == k) = false := by simpa using Ne.symm hkx
      simp only [e1, e2, Bool.false_eq_true, if_false]
      exact findAsking_ok ty hk es kl (i + 1) h3 (fun y hy => hw y (List.mem_cons_of_mem _ hy))

theorem findNow_int {kk : IntKind} {vk : IntKind} {n : Int} : ∀ (es : List MapEntry) (kl : List (List Int × Int)) (i : Nat), es.map (fun e => (e.key, e.val)) = kl.map (fun x => (keyVal [.int kk] false x.1, .int vk x.2)) → (∀ x ∈ kl, keyWf [.int kk] x.1) →
      Instr.findNow (.int kk) (.int kk n) es i = some ((findK [n] kl i).map (fun r => (r.1, .int vk r.2)))
  | [], [], i, _, _ => by simp [Instr.findNow, findK]
  | [], _ :: _, i, h, _ => by simp at h
  | _ :: _, [], i, h, _ => by simp at h
  | e :: es, x :: kl, i, h, hw => by
    simp only [List.map_cons, List.cons.injEq, Prod.mk.injEq] at h
    obtain ⟨⟨h1, h2⟩, h3⟩ := h
    have hx := hw x (List.mem_cons_self ..)
    obtain ⟨xk, xv⟩ := x
    match xk, hx with
    | [m], _ =>
      have ih := findNow_int (n := n) es kl (i + 1) h3 (fun y hy => hw y (List.mem_cons_of_mem _ hy))
      simp only [keyVal, keyCells, cellKey] at h1
      simp only [Instr.findNow, h1, Instr.sameNow, if_true, findK]
      by_cases hnm : n = m
      · subst hnm; simp [h2]
      · have e1 : (n == m) = false := by simpa using hnm
        have e2 : (([m] : List Int) == [n]) = false := by simpa using Ne.symm hnm
        simp only [e1, e2, Bool.false_eq_true, if_false]
        exact ih
    | [], h => simp [keyWf] at h
    | _ :: _ :: _, h => simp [keyWf] at h

theorem findKey_ok {P : Program} {w : World} {t kt et : TypeId} {ks : List CK} {agg : Bool} {vk : IntKind} (ty : MapTy P t ks agg vk kt et) {k : List Int} (hk : keyWf ks k) {es : List MapEntry} {kl : List (List Int × Int)}
    (h : es.map (fun e => (e.key, e.val)) = kl.map (fun x => (keyVal ks agg x.1, .int vk x.2))) (hw : ∀ x ∈ kl, keyWf ks x.1) :
    (Instr.findKey kt (keyVal ks agg k) es).run P w = .ok ((findK k kl 0).map (fun r => (r.1, .int vk r.2))) w := by
  rcases ty.key with ⟨kk, hu, rfl, rfl⟩ | ⟨fs, hu, rfl, hs, hl⟩
  · match k, hk with
    | [n], _ =>
      have := findNow_int (n := n) es kl 0 h hw
      simp only [keyVal, keyCells, cellKey]
      simp [Instr.findKey, run_underlying' hu, this]
    | [], h => simp [keyWf] at h
    | _ :: _ :: _, h => simp [keyWf] at h
  · rw [run_findKey_eq w (by simp [hu])]
    exact findAsking_ok ty hk es kl 0 h hw

/-! ### the three operations -/
theorem zero_int {P : Program} {w : World} {t : TypeId} : ∀ {v : Value}, zeroT P t = some (ofVal v) → (zeroValue t).run P w = .ok v w := by
  intro v h
  unfold zeroT at h
  split at h
  · rename_i i hi
    split at h
    · rename_i v' hv
      have h : ofVal v' = ofVal v := by simpa using h
      have h1 := ofVal_den (fun _ => none) v'
      rw [h, ofVal_den] at h1
      cases h1
      simp [zeroValue, typeInfo, hi, hv]
    · cases h
  · cases h

theorem lookup_ok {P : Program} {ρ : Ren} {w : World} {t : TypeId} {m key r : AV} {ok : Bool} {h : Hp} {M K : Value} (e : lookupA P t m key ok h = some r) (hr : HeapRep P ρ h.heap w) (hm : relS ρ m M) (hkey : relS ρ key K) :
    ∃ z, (Instr.lookup t M K ok).run P w = .ok z w ∧ den ρ r = some z := by
  unfold lookupA at e
  split at e
  · rename_i ks agg vk hmk
    obtain ⟨kt, et, ty⟩ := mapKinds_ty hmk
    split at e
    · cases e
    · rename_i z0 hz
      split at e
      · cases e
      rename_i k hk
      obtain ⟨rfl, hw⟩ := keyOf_den ty hk hkey
      have hzr : (zeroValue et).run P w = .ok (.int vk 0) w := by
        unfold zeroOk at hz
        split at hz
        · rename_i kt' et' hmap
          rw [ty.map] at hmap; cases hmap
          split at hz
          · rename_i vk' n' hz'
            split at hz
            · rename_i h1 h2; cases hz
              have h1 := of_decide_eq_true h1; subst h1
              have h2 := of_decide_eq_true h2; subst h2
              exact zero_int (by rw [hz']; rfl)
            · cases hz
          · cases hz
        · cases hz
      split at e
      · have := relS_den hm (by simp); simp [den] at this; subst this
        split at e <;> cases e
        · refine ⟨.tuple #[.int vk 0, .bool false], ?_, by simp [den, denL]⟩
          have hf := findKey_ok (w := w) ty hw (es := []) (kl := []) rfl (by simp)
          simp [findK] at hf
          simp [Instr.lookup, run_underlying' ty.map, checkKey_ok ty hw, hf, hzr]
        · refine ⟨.int vk 0, ?_, by simp [den]⟩
          have hf := findKey_ok (w := w) ty hw (es := []) (kl := []) rfl (by simp)
          simp [findK] at hf
          simp [Instr.lookup, run_underlying' ty.map, checkKey_ok ty hw, hf, hzr]
      · rename_i b
        split at e
        · rename_i t' f hg
          split at e
          · cases e
          rename_i htt
          have htt := Nat.eq_of_beq_eq_true htt
          subst htt
          have hd := relS_den hm (by simp)
          simp only [den] at hd
          cases hb : ρ b with
          | none => simp [hb] at hd
          | some L =>
            simp only [hb] at hd; cases hd
            obtain ⟨_, _, ks', agg', vk', hmk', es, clock, hblk, hbo, kl, hes, hnd, hkw, hf⟩ := hr.obj hg hb
            rw [hmk] at hmk'; cases hmk'
            have hfind := findKey_ok (w := w) ty hw hes hkw
            have hfk : f k = (findK k kl 0).map (·.2) := by rw [hf k hw, findK_find]
            have hget : (getObj L.blk).run P w = .ok (.map es clock) w := by simp [getObj, Sem.run, hblk]
            have hchk := checkKey_ok (w := w) ty hw es.isEmpty
            cases hfo : findK k kl 0 with
            | none =>
              rw [hfo] at hfk hfind
              simp at hfk hfind
              split at e <;> cases e
              · refine ⟨.tuple #[.int vk 0, .bool false], ?_, by simp [den, denL, hfk]⟩
                simp [Instr.lookup, run_underlying' ty.map, hget, hchk, hfind, hzr]
              · refine ⟨.int vk 0, ?_, by simp [den, hfk]⟩
                simp [Instr.lookup, run_underlying' ty.map, hget, hchk, hfind, hzr]
            | some p =>
              obtain ⟨i, n⟩ := p
              rw [hfo] at hfk hfind
              simp at hfk hfind
              split at e <;> cases e
              · refine ⟨.tuple #[.int vk n, .bool true], ?_, by simp [den, denL, hfk]⟩
                simp [Instr.lookup, run_underlying' ty.map, hget, hchk, hfind]
              · refine ⟨.int vk n, ?_, by simp [den, hfk]⟩
                simp [Instr.lookup, run_underlying' ty.map, hget, hchk, hfind]
        · cases e
      · cases e
  · cases e

theorem sameBits_cell (n : Nat) : ∀ (k : CK) (m : Int), k ≠ .val → Instr.sameBits n (cellKey k m) (cellKey k m) = true
  | .int k, m, _ => by cases n <;> simp [cellKey, Instr.sameBits]
  | .bool, m, _ => by cases n <;> simp [cellKey, Instr.sameBits]
  | .val, m, h => absurd rfl h

theorem keyCells_cell : ∀ (ks : List CK) (l : List Int), keyWf ks l → ∀ v ∈ keyCells ks l, ∃ k m, v = cellKey k m ∧ k ≠ .val
  | [], [], _, v, h => by simp [keyCells] at h
  | [], _ :: _, h, _, _ => by simp [keyWf] at h
  | .int _ :: _, [], h, _, _ => by simp [keyWf] at h
  | .bool :: _, [], h, _, _ => by simp [keyWf] at h
  | .val :: _, [], h, _, _ => by simp [keyWf] at h
  | .val :: _, _ :: _, h, _, _ => by simp [keyWf] at h
  | .int k :: ks, n :: ns, hw, v, h => by
    simp only [keyCells, List.mem_cons] at h
    rcases h with rfl | h
    · exact ⟨_, _, rfl, by simp⟩
    · exact keyCells_cell ks ns hw v h
  | .bool :: ks, n :: ns, hw, v, h => by
    simp only [keyCells, List.mem_cons] at h
    rcases h with rfl | h
    · exact ⟨_, _, rfl, by simp⟩
    · exact keyCells_cell ks ns hw.2 v h

theorem sameBits_key {P : Program} {t kt et : TypeId} {ks : List CK} {agg : Bool} {vk : IntKind} (ty : MapTy P t ks agg vk kt et) {k : List Int} (hk : keyWf ks k) : Instr.sameBits 10000 (keyVal ks agg k) (keyVal ks agg k) = true := by
  have key : ∀ n, Instr.sameBits (n + 1) (keyVal ks agg k) (keyVal ks agg k) = true := by
    intro n
    rcases ty.key with ⟨kk, hu, rfl, rfl⟩ | ⟨fs, hu, rfl, hs, hl⟩
    · match k, hk with
      | [m], _ => simp [keyVal, keyCells, cellKey, Instr.sameBits]
      | [], h => simp [keyWf] at h
      | _ :: _ :: _, h => simp [keyWf] at h
    · simp only [keyVal, Instr.sameBits, List.size_toArray, beq_self_eq_true, Bool.true_and, List.all_eq_true]
      intro p hp
      obtain ⟨i, hi⟩ := List.mem_iff_getElem?.1 hp
      rw [List.getElem?_zip_eq_some] at hi
      have : p.1 = p.2 := by have := hi.1.symm.trans hi.2; simpa using this
      obtain ⟨k', m, h1, h2⟩ := keyCells_cell ks k hk p.1 (List.mem_of_getElem? hi.1)
      rw [← this, h1]; exact sameBits_cell n k' m h2
  exact key 9999

theorem run_setObj {P : Program} {w : World} {r : Nat} {es : Array MapEntry} {c : Nat} (o : Obj) (h : w.heap[r]? = some (.map es c)) : (setObj r o).run P w = .ok () { w with heap := w.heap.setIfInBounds r o } := by
  simp [setObj, Sem.run, h]

/-! ### stamps -/
theorem born_push {es : Array MapEntry} {c : Nat} {x : MapEntry} (h : BornOk es.toList c) (hx : x.born = c) : BornOk (es.push x).toList (c + 1) := by
  refine ⟨fun e he => ?_, ?_⟩
  · simp at he
    rcases he with he | rfl
    · have := h.1 e (by simpa using he); omega
    · omega
  · simp only [Array.toList_push, List.map_append, List.map_cons, List.map_nil]
    rw [List.nodup_append]
    refine ⟨h.2, by simp, fun a ha b hb => ?_⟩
    simp at hb; subst hb
    obtain ⟨e, he, rfl⟩ := List.mem_map.1 ha
    have := h.1 e he
    omega
theorem born_modify {es : Array MapEntry} {c i : Nat} {g : MapEntry → MapEntry} (h : BornOk es.toList c) (hg : ∀ e, (g e).born = e.born) : BornOk (es.modify i g).toList c := by
  have hm : (es.modify i g).toList.map (·.born) = es.toList.map (·.born) := by
    refine List.ext_getElem? fun j => ?_
    simp only [List.getElem?_map, Array.getElem?_toList, Array.getElem?_modify]
    by_cases hj : i = j
    · subst hj; cases es[i]? <;> simp [hg]
    · simp [hj]
  refine ⟨fun e he => ?_, by rw [hm]; exact h.2⟩
  have : e.born ∈ (es.modify i g).toList.map (·.born) := List.mem_map.2 ⟨e, he, rfl⟩
  rw [hm] at this
  obtain ⟨e', he', hb⟩ := List.mem_map.1 this
  have := h.1 e' he'
  omega
theorem born_erase {es : Array MapEntry} {c i : Nat} (h : BornOk es.toList c) : BornOk (es.eraseIdxIfInBounds i).toList c := by
  rw [show (es.eraseIdxIfInBounds i).toList = es.toList.eraseIdx i by simp]
  have hs : (es.toList.eraseIdx i).Sublist es.toList := List.eraseIdx_sublist _ _
  exact ⟨fun e he => h.1 e (hs.mem he), (hs.map _).nodup h.2⟩

/-- Another map's object in a map's block. -/
theorem map_put {P : Program} {ρ : Ren} {w : World} {h : Hp} {b : Nat} {t : TypeId} {f f' : List Int → Option Int} {L : Loc} {es es' : Array MapEntry} {c c' : Nat} {ks : List CK} {agg : Bool} {vk : IntKind}
    (hr : HeapRep P ρ h.heap w) (hg : get h.heap b = some (.map t f)) (hL : ρ b = some L) (hmk : mapKinds P t = some (ks, agg, vk)) (hblk : w.heap[L.blk]? = some (.map es c)) (hbo : BornOk es'.toList c') (hm : MapRep ks agg vk es'.toList f') :
    Step P ρ h w ρ (h.put b (.map t f')) { w with heap := w.heap.setIfInBounds L.blk (.map es' c') } := by
  have hlt : L.blk < w.heap.size := (Array.getElem?_eq_some_iff.1 hblk).1
  obtain ⟨h0, h1, _⟩ := hr.obj hg hL
  refine put_step hr hg rfl rfl hL h1 (fun k hk => by simp [Array.getElem?_setIfInBounds_ne (Ne.symm hk)]) (by simp) rfl rfl rfl ⟨h0, h1, ks, agg, vk, hmk, es', c', ?_, hbo, hm⟩
  simp [hlt]

theorem find_map_eq {k : List Int} : ∀ {l : List (List Int × Int)} {i : Nat} {n : Int}, (l.map (·.1)).Nodup → l[i]? = some (k, n) → l.find? (fun x => x.1 == k) = some (k, n)
  | [], i, n, _, h => by simp at h
  | x :: r, 0, n, _, h => by simp at h; subst h; simp
  | x :: r, i + 1, n, hnd, h => by
    simp only [List.map_cons, List.nodup_cons] at hnd
    simp only [List.getElem?_cons_succ] at h
    have hne : x.1 ≠ k := by
      intro e
      exact hnd.1 (List.mem_map.2 ⟨(k, n), List.mem_of_getElem? h, e.symm⟩)
    rw [List.find?_cons]
    have : (x.1 == k) = false := by simpa using hne
    simp only [this]
    exact find_map_eq hnd.2 h

theorem update_ok {P : Program} {ρ : Ren} {w : World} {t : TypeId} {m key v : AV} {h h' : Hp} (e : updateA P t m key v h = some h') :
    Mono h h' ∧ (HeapRep P ρ h.heap w → ∀ M K V, relS ρ m M → relS ρ key K → relS ρ v V → ∃ w', (Instr.mapUpdate t M K V).run P w = .ok () w' ∧ Step P ρ h w ρ h' w') := by
  unfold updateA at e
  split at e
  · rename_i ks agg vk b vk' c n hmk hv
    split at e
    · rename_i k t' f hk hg hvk
      split at e
      · rename_i htt
        cases e
        have htt := Nat.eq_of_beq_eq_true htt; subst htt
        have hvk := of_decide_eq_true hvk; subst hvk
        refine ⟨put_mono _ _ _, fun hr M K V hM hK hV => ?_⟩
        obtain ⟨kt, et, ty⟩ := mapKinds_ty hmk
        obtain ⟨rfl, hw⟩ := keyOf_den ty hk hK
        obtain ⟨hv1, hv2⟩ := asI_den (ρ := ρ) hv
        have := relS_den hV hv2; rw [hv1] at this; cases this
        have hd := relS_den hM (by simp)
        simp only [den] at hd
        cases hb : ρ b with
        | none => simp [hb] at hd
        | some L =>
          simp only [hb] at hd; cases hd
          obtain ⟨h0, h1, ks', agg', vk', hmk', es, clock, hblk, hbo, kl, hes, hnd, hkw, hf⟩ := hr.obj hg hb
          rw [hmk] at hmk'; cases hmk'
          have hfind := findKey_ok (w := w) ty hw hes hkw
          have hget : (getObj L.blk).run P w = .ok (.map es clock) w := by simp [getObj, Sem.run, hblk]
          have hchk := checkKey_ok (w := w) ty hw false
          cases hfo : findK k kl 0 with
          | none =>
            rw [hfo] at hfind
            have hno := findK_none kl 0 hfo
            refine ⟨_, ?_, map_put (es' := es.push { key := keyVal ks agg k, val := .int vk n, born := clock }) (c' := clock + 1) hr hg hb hmk hblk (born_push hbo rfl) ?_⟩
            · simp [Instr.mapUpdate, run_underlying' ty.map, hget, hchk, hfind, run_setObj _ hblk]
            · refine ⟨kl ++ [(k, n)], by simp [hes], ?_, ?_, fun k' hk' => ?_⟩
              · simp only [List.map_append, List.map_cons, List.map_nil]
                rw [List.nodup_append]
                refine ⟨hnd, by simp, fun a ha b' hb' => ?_⟩
                simp at hb'; subst hb'
                obtain ⟨x, hx, rfl⟩ := List.mem_map.1 ha
                exact hno x hx
              · intro x hx
                rcases List.mem_append.1 hx with hx | hx
                · exact hkw x hx
                · simp at hx; subst hx; exact hw
              · simp only [setKey]
                rw [List.find?_append]
                by_cases hkk : k' = k
                · subst hkk
                  have : kl.find? (fun x => x.1 == k') = none := by
                    rw [List.find?_eq_none]; intro x hx; simpa using hno x hx
                  simp [this]
                · rw [if_neg hkk, hf k' hk']
                  cases hfk : kl.find? (fun x => x.1 == k') with
                  | some x => simp
                  | none => simp [Ne.symm hkk]
          | some p =>
            obtain ⟨i, n0⟩ := p
            rw [hfo] at hfind
            obtain ⟨_, hi⟩ := findK_some kl 0 i n0 hfo
            simp only [Nat.sub_zero] at hi
            have hi2 : (es.toList.map (fun e => (e.key, e.val)))[i]? = some (keyVal ks agg k, .int vk n0) := by rw [hes]; simp [hi]
            simp only [List.getElem?_map] at hi2
            cases hei : es.toList[i]? with
            | none => simp [hei] at hi2
            | some e0 =>
              simp [hei] at hi2
              have hei' : es[i]? = some e0 := by simpa using hei
              have hstay : (Instr.keyThatStays (((es[i]?).map (·.key)).getD (keyVal ks agg k)) (keyVal ks agg k)).run P w = .ok (keyVal ks agg k) w := by
                simp [Instr.keyThatStays, hei', hi2.1, sameBits_key ty hw]
              refine ⟨_, ?_, map_put (es' := es.modify i fun e => { e with key := keyVal ks agg k, val := .int vk n }) (c' := clock) hr hg hb hmk hblk (born_modify hbo (fun _ => rfl)) ?_⟩
              · simp only [Instr.mapUpdate, Sem.run_bind, run_underlying' ty.map, Result.andThen_ok, hget, hchk, hfind, Option.map_some, hstay, run_setObj _ hblk]
              · have hkl : ∀ (j : Nat), (kl.modify i (fun x => (k, n)))[j]? = if j = i then some (k, n) else kl[j]? := by
                  intro j
                  rw [List.getElem?_modify]
                  by_cases hj : j = i
                  · subst hj; simp [hi]
                  · simp [hj, Ne.symm hj]
                have hfst : (kl.modify i (fun x => (k, n))).map (·.1) = kl.map (·.1) := by
                  refine List.ext_getElem? fun j => ?_
                  rw [List.getElem?_map, hkl, List.getElem?_map]
                  by_cases hj : j = i
                  · subst hj; simp [hi]
                  · simp [hj]
                refine ⟨kl.modify i (fun x => (k, n)), ?_, by rw [hfst]; exact hnd, ?_, fun k' hk' => ?_⟩
                · refine List.ext_getElem? fun j => ?_
                  have hj0 : (es.toList.map (fun e => (e.key, e.val)))[j]? = (kl.map (fun x => (keyVal ks agg x.1, Value.int vk x.2)))[j]? := by rw [hes]
                  simp only [List.getElem?_map] at hj0 ⊢
                  rw [hkl, Array.getElem?_toList, Array.getElem?_modify]
                  by_cases hj : j = i
                  · subst hj; simp [hei']
                  · simp only [hj, if_false, Ne.symm hj]
                    simpa using hj0
                · intro x hx
                  obtain ⟨j, hj⟩ := List.mem_iff_getElem?.1 hx
                  rw [hkl] at hj
                  split at hj
                  · cases hj; exact hw
                  · exact hkw x (List.mem_of_getElem? hj)
                · simp only [setKey]
                  by_cases hkk : k' = k
                  · subst hkk
                    rw [if_pos rfl, find_map_eq (i := i) (n := n) (by rw [hfst]; exact hnd) (by rw [hkl, if_pos rfl])]
                    rfl
                  · rw [if_neg hkk, hf k' hk']
                    cases hfk : kl.find? (fun x => x.1 == k') with
                    | none =>
                      have : (kl.modify i (fun x => (k, n))).find? (fun x => x.1 == k') = none := by
                        rw [List.find?_eq_none] at hfk ⊢
                        intro x hx
                        obtain ⟨j, hj⟩ := List.mem_iff_getElem?.1 hx
                        rw [hkl] at hj
                        split at hj
                        · cases hj; simpa using Ne.symm hkk
                        · exact hfk x (List.mem_of_getElem? hj)
                      rw [this]
                    | some x =>
                      have hx := List.find?_some hfk
                      have hx1 : x.1 = k' := by simpa using hx
                      obtain ⟨j, hj⟩ := List.mem_iff_getElem?.1 (List.mem_of_find?_eq_some hfk)
                      have hji : j ≠ i := by
                        intro e; subst e; rw [hi] at hj; cases hj; exact hkk hx1.symm
                      obtain ⟨x1, x2⟩ := x
                      simp only at hx1; subst hx1
                      rw [find_map_eq (i := j) (n := x2) (by rw [hfst]; exact hnd) (by rw [hkl, if_neg hji]; exact hj)]
      · cases e
    · cases e
  · cases e

theorem delete_ok {P : Program} {ρ : Ren} {w : World} {t : TypeId} {m key : AV} {h h' : Hp} (e : deleteA P t m key h = some h') :
    Mono h h' ∧ (HeapRep P ρ h.heap w → ∀ r a M K, relS ρ m M → relS ρ key K → ∃ w', (Builtin.delete_ (t :: r).toArray a #[M, K]).run P w = .ok (.tuple #[]) w' ∧ Step P ρ h w ρ h' w') := by
  unfold deleteA at e
  split at e
  · rename_i ks agg vk hmk
    obtain ⟨kt, et, ty⟩ := mapKinds_ty hmk
    split at e
    · rename_i k hk
      cases e
      refine ⟨.refl _, fun hr r a M K hM hK => ?_⟩
      obtain ⟨rfl, hw⟩ := keyOf_den ty hk hK
      have := relS_den hM (by simp); simp [den] at this; subst this
      refine ⟨w, ?_, .refl hr rfl⟩
      simp [Builtin.delete_, run_underlying' ty.map, checkKey_ok ty hw]
    · rename_i k b hk
      split at e
      · rename_i t' f hg
        split at e
        · rename_i htt
          cases e
          have htt := Nat.eq_of_beq_eq_true htt; subst htt
          refine ⟨put_mono _ _ _, fun hr r a M K hM hK => ?_⟩
          obtain ⟨rfl, hw⟩ := keyOf_den ty hk hK
          have hd := relS_den hM (by simp)
          simp only [den] at hd
          cases hb : ρ b with
          | none => simp [hb] at hd
          | some L =>
            simp only [hb] at hd; cases hd
            obtain ⟨h0, h1, ks', agg', vk', hmk', es, clock, hblk, hbo, kl, hes, hnd, hkw, hf⟩ := hr.obj hg hb
            rw [hmk] at hmk'; cases hmk'
            have hfind := findKey_ok (w := w) ty hw hes hkw
            have hget : (getObj L.blk).run P w = .ok (.map es clock) w := by simp [getObj, Sem.run, hblk]
            have hchk := checkKey_ok (w := w) ty hw es.isEmpty
            cases hfo : findK k kl 0 with
            | none =>
              rw [hfo] at hfind
              have hno := findK_none kl 0 hfo
              refine ⟨_, ?_, map_put (es' := es) (c' := clock) hr hg hb hmk hblk hbo ?_⟩
              · simp [Builtin.delete_, run_underlying' ty.map, hget, hchk, hfind, run_setObj _ hblk]
              · refine ⟨kl, hes, hnd, hkw, fun k' hk' => ?_⟩
                simp only [setKey]
                by_cases hkk : k' = k
                · subst hkk
                  have : kl.find? (fun x => x.1 == k') = none := by
                    rw [List.find?_eq_none]; intro x hx; simpa using hno x hx
                  simp [this]
                · rw [if_neg hkk, hf k' hk']
            | some p =>
              obtain ⟨i, n0⟩ := p
              rw [hfo] at hfind
              obtain ⟨_, hi⟩ := findK_some kl 0 i n0 hfo
              simp only [Nat.sub_zero] at hi
              refine ⟨_, ?_, map_put (es' := es.eraseIdxIfInBounds i) (c' := clock) hr hg hb hmk hblk (born_erase hbo) ?_⟩
              · simp [Builtin.delete_, run_underlying' ty.map, hget, hchk, hfind, run_setObj _ hblk]
              · have hsub : (kl.eraseIdx i).Sublist kl := List.eraseIdx_sublist kl i
                refine ⟨kl.eraseIdx i, ?_, (hsub.map _).nodup hnd, fun x hx => hkw x (hsub.mem hx), fun k' hk' => ?_⟩
                · have hlen : es.toList.length = kl.length := by have := congrArg List.length hes; simpa using this
                  rw [show (es.eraseIdxIfInBounds i).toList = es.toList.eraseIdx i by simp]
                  have hmape : ∀ {α β : Type} (g : α → β) (l : List α) (i : Nat), (l.eraseIdx i).map g = (l.map g).eraseIdx i := by
                    intro α β g l
                    induction l with
                    | nil => intro i; simp
                    | cons x r ih => intro i; cases i <;> simp [ih]
                  rw [hmape, hmape, hes]
                · simp only [setKey]
                  by_cases hkk : k' = k
                  · subst hkk
                    rw [if_pos rfl]
                    have : (kl.eraseIdx i).find? (fun x => x.1 == k') = none := by
                      rw [List.find?_eq_none]
                      intro x hx hx2
                      have hx1 : x.1 = k' := by simpa using hx2
                      obtain ⟨j, hj⟩ := List.mem_iff_getElem?.1 hx
                      rw [List.getElem?_eraseIdx] at hj
                      have hinj : ∀ (a b : Nat) (y z : List Int × Int), kl[a]? = some y → kl[b]? = some z → y.1 = z.1 → a = b := by
                        intro a b y z ha hb' hyz
                        have h1 : (kl.map (·.1))[a]? = some y.1 := by simp [ha]
                        have h2 : (kl.map (·.1))[b]? = some y.1 := by simp [hb', hyz]
                        exact (List.getElem?_inj (List.getElem?_eq_some_iff.1 h1).1 hnd).1 (h1.trans h2.symm)
                      split at hj
                      · have := hinj j i x _ hj hi (by simpa using hx1); omega
                      · have := hinj (j + 1) i x _ hj hi (by simpa using hx1); omega
                    rw [this]; rfl
                  · rw [if_neg hkk, hf k' hk']
                    cases hfk : kl.find? (fun x => x.1 == k') with
                    | none =>
                      have : (kl.eraseIdx i).find? (fun x => x.1 == k') = none := by
                        rw [List.find?_eq_none] at hfk ⊢
                        exact fun x hx => hfk x (hsub.mem hx)
                      rw [this]
                    | some x =>
                      have hx := List.find?_some hfk
                      have hx1 : x.1 = k' := by simpa using hx
                      obtain ⟨x1, x2⟩ := x
                      simp only at hx1; subst hx1
                      have hmem : (x1, x2) ∈ kl.eraseIdx i := by
                        obtain ⟨j, hj⟩ := List.mem_iff_getElem?.1 (List.mem_of_find?_eq_some hfk)
                        have hji : j ≠ i := by
                          intro e; subst e; rw [hi] at hj; cases hj; exact hkk rfl
                        rw [List.mem_eraseIdx_iff_getElem?]
                        exact ⟨j, hji, hj⟩
                      obtain ⟨j, hj⟩ := List.mem_iff_getElem?.1 hmem
                      rw [find_map_eq (i := j) (n := x2) ((hsub.map _).nodup hnd) hj]
        · cases e
      · cases e
    · cases e
  · cases e

theorem makeMap_ok {P : Program} {ρ : Ren} {w : World} {t : TypeId} {r : AV} {h h' : Hp} (e : makeMapA P t h = some (r, h')) :
    Mono h h' ∧ r ≠ .top ∧ (Fresh ρ h.nxt h.hi → HeapRep P ρ h.heap w → ∃ ρ' w' x, (Instr.makeMap t none).run P w = .ok x w' ∧ den ρ' r = some x ∧ Step P ρ h w ρ' h' w') := by
  unfold makeMapA at e
  split at e
  · rename_i km hmk
    obtain ⟨ks, agg, vk⟩ := km
    split at e
    · rename_i b h1 hn
      cases e
      refine ⟨new_mono hn, by simp, fun hf hr => ?_⟩
      let l : Loc := ⟨w.heap.size, 0, 0, 1, false⟩
      have ho : ObjRep P (ρ.set b l) (w.alloc (.map #[] 0)) l (.map t (fun _ => none)) :=
        ⟨rfl, by simp [l], ks, agg, vk, hmk, #[], 0, heap_alloc_new w _, ⟨by simp, by simp⟩, [], rfl, by simp, by simp, fun _ _ => rfl⟩
      obtain ⟨hs, _⟩ := new_step hn hr hf (.map #[] 0) l rfl ho
      exact ⟨ρ.set b l, _, .map (some w.heap.size), by simp [Instr.makeMap], by simp [den, Ren.set_same, l], hs⟩
    · cases e
  · cases e


/-- A map's zero value. -/
theorem zero_run {P : Program} {w : World} {t kt et : TypeId} {ks : List CK} {agg : Bool} {vk : IntKind} {z0 : Bool} (ty : MapTy P t ks agg vk kt et) (hz : zeroOk P t vk = some z0) : (zeroValue et).run P w = .ok (.int vk 0) w := by
  unfold zeroOk at hz
  split at hz
  · rename_i kt' et' hmap
    rw [ty.map] at hmap; cases hmap
    split at hz
    · rename_i vk' n' hz'
      split at hz
      · rename_i h1 h2; cases hz
        have h1 := of_decide_eq_true h1; subst h1
        have h2 := of_decide_eq_true h2; subst h2
        exact zero_int (by rw [hz']; rfl)
      · cases hz
    · cases hz
  · cases hz

theorem set_set {w : World} {r : Nat} {o o' : Obj} : ({ ({ w with heap := w.heap.setIfInBounds r o } : World) with heap := (w.heap.setIfInBounds r o).setIfInBounds r o' } : World) = { w with heap := w.heap.setIfInBounds r o' } := by
  simp

/-- 'm[k], .. = v, ..': the entry is made first, and filled later. -/
theorem entry_ok {P : Program} {ρ : Ren} {w : World} {t : TypeId} {m key v : AV} {h h' : Hp} (e : updateA P t m key v h = some h') {ks0 : List CK} {agg0 : Bool} {vk0 : IntKind} {z0 : Bool} (hk0 : mapKinds P t = some (ks0, agg0, vk0)) (hz : zeroOk P t vk0 = some z0)
    (hr : HeapRep P ρ h.heap w) {M K V : Value} (hM : relS ρ m M) (hK : relS ρ key K) (hV : relS ρ v V) :
    ∃ x s w1 w', (Instr.mapEntry t M K).run P w = .ok (.tuple #[x, goInt s]) w1 ∧ (Instr.entryStore t M (goInt s) V).run P w1 = .ok () w' ∧ Step P ρ h w ρ h' w' := by
  obtain ⟨w', hrun, st⟩ := (update_ok e).2 hr M K V hM hK hV
  unfold updateA at e
  split at e
  · rename_i ks agg vk b vk' c n hmk hv
    rw [hmk] at hk0
    simp only [Option.some.injEq, Prod.mk.injEq] at hk0
    obtain ⟨rfl, rfl, rfl⟩ := hk0
    split at e
    · rename_i k t' f hk hg hvk
      split at e
      · rename_i htt
        have htt := Nat.eq_of_beq_eq_true htt; subst htt
        obtain ⟨kt, et, ty⟩ := mapKinds_ty hmk
        obtain ⟨rfl, hw⟩ := keyOf_den ty hk hK
        have hd := relS_den hM (by simp)
        simp only [den] at hd
        cases hb : ρ b with
        | none => simp [hb] at hd
        | some L =>
          simp only [hb] at hd; cases hd
          obtain ⟨h0, h1, ks', agg', vk', hmk', es, clock, hblk, hbo, kl, hes, hnd, hkw, hf⟩ := hr.obj hg hb
          rw [hmk] at hmk'; cases hmk'
          have hlt : L.blk < w.heap.size := (Array.getElem?_eq_some_iff.1 hblk).1
          have hfind := findKey_ok (w := w) ty hw hes hkw
          have hget : (getObj L.blk).run P w = .ok (.map es clock) w := by simp [getObj, Sem.run, hblk]
          have hchk := checkKey_ok (w := w) ty hw false
          have hzr := zero_run (w := w) ty hz
          cases hfo : findK k kl 0 with
          | none =>
            rw [hfo] at hfind
            have hW : (Instr.mapUpdate t (.map (some L.blk)) (keyVal ks agg k) V).run P w = .ok () { w with heap := w.heap.setIfInBounds L.blk (.map (es.push { key := keyVal ks agg k, val := V, born := clock }) (clock + 1)) } := by
              simp [Instr.mapUpdate, run_underlying' ty.map, hget, hchk, hfind, run_setObj _ hblk]
            rw [hW] at hrun; cases hrun
            let es1 := es.push { key := keyVal ks agg k, val := .int vk 0, born := clock }
            have hb1 : ({ w with heap := w.heap.setIfInBounds L.blk (.map es1 (clock + 1)) } : World).heap[L.blk]? = some (.map es1 (clock + 1)) := by simp [hlt]
            have hidx : es1.findIdx? (fun e => (e.born : Int) == (clock : Int)) = some es.size := by
              rw [Array.findIdx?_eq_some_iff_getElem]
              refine ⟨by simp [es1], by simp [es1], fun j hj => ?_⟩
              have hj' : j < es.size := hj
              have hmem : es[j] ∈ es.toList := by simp
              have := hbo.1 es[j] hmem
              have he : es1[j]'(by simp [es1]; omega) = es[j] := by simp [es1, Array.getElem_push, hj']
              rw [he]; simp; omega
            refine ⟨.int vk 0, clock, { w with heap := w.heap.setIfInBounds L.blk (.map es1 (clock + 1)) }, _, ?_, ?_, st⟩
            · simp [Instr.mapEntry, run_underlying' ty.map, hget, hchk, hfind, hzr, run_setObj _ hblk, es1]
            · have hget1 : (getObj L.blk).run P { w with heap := w.heap.setIfInBounds L.blk (.map es1 (clock + 1)) } = .ok (.map es1 (clock + 1)) { w with heap := w.heap.setIfInBounds L.blk (.map es1 (clock + 1)) } := by simp [getObj, Sem.run, hlt]
              have hmod : es1.modify es.size (fun e => { e with val := V }) = es.push { key := keyVal ks agg k, val := V, born := clock } := by
                apply Array.ext_getElem?
                intro j
                rw [Array.getElem?_modify]
                by_cases hj : es.size = j
                · subst hj; simp [es1]
                · have hj' : ¬ j = es.size := fun e => hj e.symm
                  simp [es1, hj, hj', Array.getElem?_push]
              simp only [Instr.entryStore, Sem.run_bind, Result.andThen_ok, hget1, asInt, asIntOf, goInt, Sem.run_pure, hidx, run_setObj _ hb1, hmod]
              simp
          | some p =>
            obtain ⟨i, n0⟩ := p
            rw [hfo] at hfind
            obtain ⟨_, hi⟩ := findK_some kl 0 i n0 hfo
            simp only [Nat.sub_zero] at hi
            have hi2 : (es.toList.map (fun e => (e.key, e.val)))[i]? = some (keyVal ks agg k, .int vk n0) := by rw [hes]; simp [hi]
            simp only [List.getElem?_map] at hi2
            cases hei : es.toList[i]? with
            | none => simp [hei] at hi2
            | some e0 =>
              simp [hei] at hi2
              have hei' : es[i]? = some e0 := by simpa using hei
              have hilt : i < es.size := (Array.getElem?_eq_some_iff.1 hei').1
              have hei2 : es[i] = e0 := (Array.getElem?_eq_some_iff.1 hei').2
              have hstay : (Instr.keyThatStays (((es[i]?).map (·.key)).getD (keyVal ks agg k)) (keyVal ks agg k)).run P w = .ok (keyVal ks agg k) w := by
                simp [Instr.keyThatStays, hei', hi2.1, sameBits_key ty hw]
              have hW : (Instr.mapUpdate t (.map (some L.blk)) (keyVal ks agg k) V).run P w = .ok () { w with heap := w.heap.setIfInBounds L.blk (.map (es.modify i fun e => { e with key := keyVal ks agg k, val := V }) clock) } := by
                simp only [Instr.mapUpdate, Sem.run_bind, run_underlying' ty.map, Result.andThen_ok, hget, hchk, hfind, Option.map_some, hstay, run_setObj _ hblk]
              rw [hW] at hrun; cases hrun
              let es1 := es.modify i fun e => { e with key := keyVal ks agg k }
              have hb1 : ({ w with heap := w.heap.setIfInBounds L.blk (.map es1 clock) } : World).heap[L.blk]? = some (.map es1 clock) := by simp [hlt]
              have hborn : ∀ j (hj : j < es.size), (es1[j]'(by simp [es1]; omega)).born = es[j].born := by
                intro j hj
                simp only [es1, Array.getElem_modify]
                split <;> simp_all
              have hidx : es1.findIdx? (fun e => (e.born : Int) == (e0.born : Int)) = some i := by
                rw [Array.findIdx?_eq_some_iff_getElem]
                refine ⟨by simp [es1]; omega, by rw [hborn i hilt, hei2]; simp, fun j hj => ?_⟩
                have hjs : j < es.size := by omega
                rw [hborn j hjs]
                simp only [beq_iff_eq, Int.natCast_inj, Bool.not_eq_true, beq_eq_false_iff_ne, ne_eq]
                intro hbe
                have h1 : (es.toList.map (·.born))[j]? = some es[j].born := by simp [hjs]
                have h2 : (es.toList.map (·.born))[i]? = some es[j].born := by rw [List.getElem?_map, hei]; simp [hbe]
                have := (List.getElem?_inj (List.getElem?_eq_some_iff.1 h1).1 hbo.2).1 (h1.trans h2.symm)
                omega
              refine ⟨.int vk n0, e0.born, { w with heap := w.heap.setIfInBounds L.blk (.map es1 clock) }, _, ?_, ?_, st⟩
              · simp only [Instr.mapEntry, Sem.run_bind, run_underlying' ty.map, Result.andThen_ok, hget, hchk, hfind, Option.map_some, hstay, run_setObj _ hblk, Sem.run_pure]
                simp [hei', es1]
              · have hget1 : (getObj L.blk).run P { w with heap := w.heap.setIfInBounds L.blk (.map es1 clock) } = .ok (.map es1 clock) { w with heap := w.heap.setIfInBounds L.blk (.map es1 clock) } := by simp [getObj, Sem.run, hlt]
                have hmod : es1.modify i (fun e => { e with val := V }) = es.modify i fun e => { e with key := keyVal ks agg k, val := V } := by
                  apply Array.ext_getElem?
                  intro j
                  simp only [es1, Array.getElem?_modify]
                  by_cases hj : i = j
                  · subst hj; simp [hei']
                  · simp [hj]
                simp only [Instr.entryStore, Sem.run_bind, Result.andThen_ok, hget1, asInt, asIntOf, goInt, Sem.run_pure, hidx, run_setObj _ hb1, hmod]
                simp
      · cases e
    · cases e
  · cases e

end Go.Ev
namespace Go.Ev
theorem Ren.set_ne {ρ : Ren} {n m : Nat} {l : Loc} (h : m ≠ n) : ρ.set n l m = ρ m := by simp [Ren.set, h]
/-- A name for a number, no object of its own. -/
theorem name_step {P : Program} {ρ : Ren} {h : Hp} {w : World} (hr : HeapRep P ρ h.heap w) (hf : Fresh ρ h.nxt h.hi) (hlt : h.nxt < h.hi) (l : Loc) (hc : l.cap = 0) :
    Step P ρ h w (ρ.set h.nxt l) { h with nxt := h.nxt + 1 } w := by
  have hn : ρ h.nxt = none := hf _ (Nat.le_refl _) hlt
  have hle := Ren.le_set (l := l) hn
  have hne : ∀ n o, get h.heap n = some o → n ≠ h.nxt := fun n o e hh => by
    obtain ⟨l', hl'⟩ := hr.loc e
    rw [hh, hn] at hl'; cases hl'
  refine ⟨hle, fun n l' e1 e2 => ?_, ⟨fun n o e => ?_, fun n m o o' l1 l2 e1 e2 hnm hro h1 h2 => ?_⟩, Fr.refl _ _, fun n o l' e1 e2 e3 e4 => ?_⟩
  · by_cases hm : n = h.nxt
    · subst hm; exact ⟨Nat.le_refl _, Nat.lt_succ_self _⟩
    · rw [Ren.set_ne hm, e1] at e2; cases e2
  · obtain ⟨l', hl', ho⟩ := hr.1 n o e
    exact ⟨l', hle n l' hl', ho.keep hle (fun _ => rfl)⟩
  · rw [Ren.set_ne (hne n o e1)] at h1
    rw [Ren.set_ne (hne m o' e2)] at h2
    exact hr.2 n m o o' l1 l2 e1 e2 hnm hro h1 h2
  · rw [Ren.set_ne (hne n o e1)] at e2
    exact ⟨n, o, l', e1, rfl, e2, e3, rfl, .inl rfl⟩
end Go.Ev
