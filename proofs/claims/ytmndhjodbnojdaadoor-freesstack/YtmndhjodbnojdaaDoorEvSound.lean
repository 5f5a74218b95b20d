/-
  EvSound and what follows it.
-/
import Derived.Test.YtmndhjodbnojdaaDoorEvEntry
import Derived.Scope
import Derived.Test.YtmndhjodbnojdaaDoorEvRen
/-
  Code, regions, calls: the soundness of the evaluator, last part.
-/
set_option linter.unusedSimpArgs false
set_option linter.unusedVariables false
namespace Go.Ev

/-- What the evaluator asks of the program. -/
structure Good (P : Program) : Prop where
  mixed : P.follows .mixedOrders = true
  names : ∀ (f : Nat) fn, P.funcs[f]? = some fn → fn.body.isSome = true → (fn.name == "runtime.NumGoroutine") = false

def Obs (h : Hp) : Prop := ∀ p ∈ h.ob, p

theorem Obs.of {h h' : Hp} (m : Mono h h') (o : Obs h') : Obs h := fun p hp => o p (m.ob p hp)

def exOf : Ex → Exit
  | .norm => .normal
  | .exit id => .exit id
  | .goto l => .goto l
  | .ret => .ret

/-- What is known when an abstract state stands for the machine's. -/
structure Pre (P : Program) (ρ : Ren) (tmps : List AV) (h : Hp) (a : Act) (w : World) : Prop where
  rel : RelL ρ tmps a.tmps.toList
  defers : a.defers = []
  rep : HeapRep P ρ h.heap w
  fresh : Fresh ρ h.nxt h.hi
  glob : GOk ρ

theorem Pre.next {P : Program} {ρ ρ' : Ren} {tmps tmps' : List AV} {h h' : Hp} {a a' : Act} {w w' : World} (p : Pre P ρ tmps h a w) (s : Step P ρ h w ρ' h' w') (m : Mono h h') (hr : RelL ρ' tmps' a'.tmps.toList) (hd : a'.defers = []) : Pre P ρ' tmps' h' a' w' :=
  ⟨hr, hd, s.rep, s.fresh m p.fresh, p.glob.mono s.le⟩

def Post (P : Program) (ρ : Ren) (h : Hp) (w : World) (e : Ex) (s' : St) (Q : Exit → Act → World → Prop) : Prop :=
  ∀ ρ' a' w', RelL ρ' s'.tmps a'.tmps.toList → a'.defers = [] → Step P ρ h w ρ' s'.hp w' → Q (exOf e) a' w'

structure ExOk (P : Program) (c : Code) (s : St) (e : Ex) (s' : St) : Prop where
  mono : Mono s.hp s'.hp
  wp : Obs s'.hp → ∀ ρ a w Q, Pre P ρ s.tmps s.hp a w → Post P ρ s.hp w e s' Q → c.wp P Q a w

structure LpOk (P : Program) (n : Nat) (c : Code) (s : St) (e : Ex) (s' : St) : Prop where
  mono : Mono s.hp s'.hp
  wp : Obs s'.hp → ∀ ρ a w Q, Pre P ρ s.tmps s.hp a w → Post P ρ s.hp w e s' Q → Code.rounds P c Q n a w

structure SqOk (P : Program) (all rest : List Oper) (s s' : St) : Prop where
  mono : Mono s.hp s'.hp
  wp : Obs s'.hp → ∀ ρ a w Q, Pre P ρ s.tmps s.hp a w → Post P ρ s.hp w .norm s' Q → wpList P all.toArray Q rest a w

/-- An operation, a call among them. -/
structure OpOk (P : Program) (tmps : List AV) (op : Op) (h : Hp) (v : AV) (h' : Hp) : Prop where
  mono : Mono h h'
  wp : Obs h' → ∀ ρ a w, Pre P ρ tmps h a w → ∀ (o : Oper) Q (next : Act → World → Prop), o.op = op → (∀ ρ' x w', relS ρ' v x → Step P ρ h w ρ' h' w' → next (a.put o.dst x) w') → o.wp P a w next Q

structure CaOk (P : Program) (f : FuncId) (args : List AV) (h : Hp) (v : AV) (h' : Hp) : Prop where
  mono : Mono h h'
  wp : Obs h' → ∀ ρ w, HeapRep P ρ h.heap w → Fresh ρ h.nxt h.hi → GOk ρ → ∀ xs, denL ρ args = some xs → Calls P f xs.toArray w fun e w' => ∃ x ρ', e = .returned x ∧ relS ρ' v x ∧ Step P ρ h w ρ' h' w'

/-- What a loop's obligation says. -/
def LoopHolds (P : Program) (c : Code) (s : St) (e : Ex) (s' : St) : Prop :=
  ∀ ρ a w Q, Pre P ρ s.tmps s.hp a w → Post P ρ s.hp w e s' Q → (Code.loop c).wp P Q a w

/-- An environment whose contracts hold. -/
structure EnvOk (E : Env) : Prop where
  good : Good E.P
  loops : ∀ c s e s', E.lob c s e s' → LoopHolds E.P c s e s'
  spec : ∀ f g, E.spec f = some g → ∀ args h v h', g args h = some (v, h') → CaOk E.P f args h v h'

/-! ### calls -/
theorem bodied_enter {P : Program} (G : Good P) {w : World} {f : FuncId} (h : bodied P f = true) (xs : Array Value) : (callFunc f xs).run P w = .ok (.enter f xs) w := by
  unfold bodied at h
  split at h
  · rename_i fn hf
    split at h
    · rename_i c hc
      have hn := G.names f fn hf (by simp [hc])
      have hn' : ¬ fn.name = "runtime.NumGoroutine" := by simpa using hn
      simp [callFunc, hf, hn', hc]
    · cases h
  · cases h

theorem findM_eq (name : String) : ∀ (l : List Method), findM name l = l.find? (fun m => m.name == name)
  | [] => rfl
  | m :: r => by
    simp only [findM, List.find?_cons]
    split <;> rename_i h <;> simp only [h]
    exact findM_eq name r

theorem method_ok {P : Program} {w : World} {t : TypeId} {name : String} {f : FuncId} (e : methodA P t name = some f) (v : Value) (n : Nat) : (method (n + 1) t v name).run P w = .ok (f, v) w := by
  unfold methodA at e
  split at e
  · rename_i i hi
    split at e
    · rename_i m hm
      rw [findM_eq] at hm
      have hm' : i.methods.find? (fun m => m.name == name) = some m := by rw [← Array.find?_toList]; exact hm
      split at e
      · rename_i f' el hp hf hu
        cases e
        simp [method, typeInfo, hi, hm', hp, follow, hf, receiverAt, run_underlying' hu, Place.get]
      · cases e
      · rename_i f' d hnp hp hf hu
        cases e
        simp only [method, typeInfo, Sem.run_bind, run_program, Result.andThen_ok, hi, Sem.run_pure, hm', hp, follow, hf, receiverAt, run_underlying' hu]
        cases d <;> first | (simp [Place.get]; done) | (exfalso; exact hnp _ rfl)
      · cases e
    · cases e
  · cases e

theorem relL_cons {ρ : Ren} {v : AV} {l : List AV} {x : Value} {xs : List Value} (h : relS ρ v x) (hl : RelL ρ l xs) : RelL ρ (v :: l) (x :: xs) :=
  ⟨by simp [hl.1], fun k u hk => by
    cases k with
    | zero => simp at hk; subst hk; exact ⟨x, rfl, h⟩
    | succ k => simp at hk; obtain ⟨y, hy, hr⟩ := hl.2 k u hk; exact ⟨y, by simpa using hy, hr⟩⟩

theorem relL_append {ρ : Ren} {l m : List AV} {xs ys : List Value} (h : RelL ρ l xs) (h' : RelL ρ m ys) : RelL ρ (l ++ m) (xs ++ ys) := by
  refine ⟨by simp [h.1, h'.1], fun k v hk => ?_⟩
  rw [List.getElem?_append] at hk ⊢
  rw [← h.1]
  split at hk
  · rename_i hlt; rw [if_pos hlt]; exact h.2 k v hk
  · rename_i hlt; rw [if_neg hlt]; exact h'.2 _ v hk

theorem relL_head {ρ : Ren} {v : AV} {l : List AV} {xs : List Value} (h : RelL ρ (v :: l) xs) : ∃ x r, xs = x :: r ∧ relS ρ v x ∧ RelL ρ l r := by
  match xs, h.1 with
  | x :: r, h1 =>
    obtain ⟨u, hu, hr⟩ := h.2 0 v rfl
    simp at hu; subst hu
    exact ⟨_, _, rfl, hr, ⟨by simpa using h1, fun k v hv => by
      obtain ⟨u, hu, hr⟩ := h.2 (k + 1) v (by simpa using hv)
      exact ⟨u, by simpa using hu, hr⟩⟩⟩

theorem den_func {ρ : Ren} {f : Fn} {l m : List AV} {x : Value} (h : den ρ (.func f l m) = some x) : ∃ xs ys, denL ρ l = some xs ∧ denL ρ m = some ys ∧ x = .func f xs.toArray ys.toArray := by
  simp only [den] at h
  cases hl : denL ρ l with
  | none => simp [hl] at h
  | some l' => cases hm : denL ρ m with
    | none => simp [hl, hm] at h
    | some m' => simp only [hl, hm] at h; cases h; exact ⟨l', m', rfl, rfl, rfl⟩

theorem den_iface {ρ : Ren} {t : TypeId} {v : AV} {x : Value} (h : den ρ (.iface t v) = some x) : ∃ y, den ρ v = some y ∧ x = .iface t y := by
  simp only [den] at h
  cases hl : den ρ v with
  | none => simp [hl] at h
  | some l' => simp only [hl] at h; cases h; exact ⟨l', rfl, rfl⟩

theorem target_ok {P : Program} (G : Good P) {ρ : Ren} {w : World} {fn : Fn} {args cap : List AV} {f : FuncId} {args' : List AV} (e : targetA P fn args cap = some (f, args')) (hb : bodied P f = true) {xs cs : List Value} (hx : RelL ρ args xs) (hc : RelL ρ cap cs) :
    ∃ ys, RelL ρ args' ys ∧ (invoke (.fn fn cs.toArray) xs.toArray).run P w = .ok (.enter f ys.toArray) w := by
  have hmeth : ∀ {t v r f' name}, args = .iface t v :: r → methodA P t name = some f' → f = f' → args' = v :: r → ∃ ys y R, RelL ρ args' ys ∧ xs = .iface t y :: R ∧ ys = y :: R ∧ ∀ (n : Nat), (method (n + 1) t y name).run P w = .ok (f, y) w := by
    intro t v r f' name ha hm hf ha'
    subst ha; subst hf; subst ha'
    obtain ⟨x, R, rfl, hr, hR⟩ := relL_head hx
    obtain ⟨y, hy, rfl⟩ := den_iface (relS_den hr (by simp))
    exact ⟨_, y, R, relL_cons (.inr hy) hR, rfl, rfl, fun n => method_ok hm y n⟩
  have hdepth : ∀ {t : TypeId} {y : Value} {name : String}, (∀ (n : Nat), (method (n + 1) t y name).run P w = .ok (f, y) w) → (method (P.types.size + Made.depth) t y name).run P w = .ok (f, y) w := by
    intro t y name h
    have := h (P.types.size + 99)
    exact this
  unfold targetA at e
  split at e
  · cases e
    refine ⟨xs ++ cs, relL_append hx hc, ?_⟩
    have := bodied_enter G (w := w) hb (xs ++ cs).toArray
    simpa [invoke] using this
  · split at e
    · rename_i t v r
      split at e
      · rename_i f' hm
        cases e
        obtain ⟨ys, y, R, h1, rfl, rfl, h4⟩ := hmeth rfl hm rfl rfl
        refine ⟨_, h1, ?_⟩
        have := bodied_enter G (w := w) hb (y :: R).toArray
        simp [invoke, callMethod, hdepth h4]
        simpa using this
      · cases e
    · cases e
  · split at e
    · rename_i ms hu
      split at e
      · rename_i t v r
        split at e
        · rename_i f' hm
          cases e
          obtain ⟨ys, y, R, h1, rfl, rfl, h4⟩ := hmeth rfl hm rfl rfl
          refine ⟨_, h1, ?_⟩
          have := bodied_enter G (w := w) hb (y :: R).toArray
          simp [invoke, run_underlying' hu, callMethod, hdepth h4]
          simpa using this
        · cases e
      · cases e
    · rename_i t name d hnd hu
      split at e
      · rename_i v r
        split at e
        · rename_i f' hm
          cases e
          obtain ⟨x, R, rfl, hr, hR⟩ := relL_head hx
          refine ⟨_, relL_cons hr hR, ?_⟩
          have h4 := hdepth (fun n => method_ok (w := w) hm x n)
          have := bodied_enter G (w := w) hb (x :: R).toArray
          cases d <;> first
            | (exfalso; exact hnd _ rfl)
            | (simp [invoke, run_underlying' hu, callMethod, h4]; simpa using this)
        · cases e
      · cases e
    · cases e
  · cases e

theorem callee_ok {P : Program} (G : Good P) {ρ : Ren} (K : GOk ρ) {w : World} {tmps : List AV} {o : Oper} {f : FuncId} {args : List AV} (e : callee P tmps o.op = some (some (f, args))) {a : Act} (hr : RelL ρ tmps a.tmps.toList) :
    ∃ xs, denL ρ args = some xs ∧ (execOp a.eval o).run P w = .ok (.enter f xs.toArray) w := by
  obtain ⟨dst, op, type, pos, after, guard⟩ := o
  simp only at e
  unfold callee at e
  split at e
  · rename_i fo argso ats
    split at e
    · rename_i fn first captured args0 hf hargs
      split at e
      · rename_i f' args' ht
        split at e
        · rename_i hb hk
          cases e
          obtain ⟨fs, cs, h1, h2, h3⟩ := den_func (relS_den (evA_ok K hf hr) (by simp))
          have h4 := evAll_ok K hr _ _ hargs
          obtain ⟨ys, hy, hrun⟩ := target_ok G (w := w) ht hb (relL_append (denL.rel h1) h4) (denL.rel h2)
          refine ⟨ys, hy.den (allKnown_mem hk), ?_⟩
          simp only [execOp, resolve, h3, Deferred.ofValue]
          have : (fs ++ List.map a.eval argso.toList).toArray = fs.toArray ++ Array.map a.eval argso := Array.ext' (by simp)
          rw [this] at hrun
          exact hrun
        · cases e
      · cases e
    · cases e
  · rename_i r name argso ats
    split at e
    · rename_i t v args0 hf hargs
      split at e
      · rename_i f' hm
        split at e
        · rename_i hb hk
          cases e
          obtain ⟨y, hy, h3⟩ := den_iface (relS_den (evA_ok K hf hr) (by simp))
          have h4 := evAll_ok K hr _ _ hargs
          have hrel := relL_cons (.inr hy) h4
          refine ⟨_, hrel.den (allKnown_mem hk), ?_⟩
          have hme : (method (P.types.size + Made.depth) t y name).run P w = .ok (f, y) w := method_ok hm y (P.types.size + 99)
          have := bodied_enter G (w := w) hb (y :: List.map a.eval argso.toList).toArray
          have hargs' : Array.map a.eval argso = (List.map a.eval argso.toList).toArray := Array.ext' (by simp)
          simp only [execOp, resolve, h3, hargs']
          generalize List.map a.eval argso.toList = l at this ⊢
          simp [invoke, callMethod, hme]
          simpa using this
        · cases e
      · cases e
    · cases e
  · cases e

theorem settle_ok {ops : List Oper} {i : Nat} {v v' : AV} {h h' : Hp} (e : settle ops i v h = some (v', h')) : Qt h h' ∧ (Obs h' → ∀ ρ x, relS ρ v x → relS ρ v' x) := by
  unfold settle at e
  split at e
  · split at e
    · split at e
      · rename_i c h1 hd
        cases e
        obtain ⟨q, o⟩ := dec_qt hd
        refine ⟨q, fun ho ρ x hx => ?_⟩
        have hx := relS_den hx (by simp)
        rcases o ho with h | h
        · cases h
        · cases h; exact .inr (by simpa [den] using hx)
      · cases e
    · cases e; exact ⟨.refl _, fun _ _ _ h => h⟩
  · cases e; exact ⟨.refl _, fun _ _ _ h => h⟩

theorem wanted_ok {ρ : Ren} {all : List Oper} {tmps : List AV} {o : Oper} {b : Bool} (e : wantedA all tmps o = some b) {a : Act} (hr : RelL ρ tmps a.tmps.toList) : Region.wanted o (yielded all.toArray a.tmps) = b := by
  unfold wantedA at e
  unfold Region.wanted
  split at e
  · rename_i hg; cases e; rw [hg]
  · rename_i j want hg
    rw [hg]
    simp only
    have hy : ∀ d, dstOf all j = some d → yielded all.toArray a.tmps j = (match a.tmps[d]? with | some (.bool b) => some b | _ => none) := by
      intro d hd
      unfold dstOf at hd
      rw [nth_eq] at hd
      split at hd
      · rename_i o' ho'
        have h1 : all.toArray[j]? = some o' := by simpa using ho'
        simp only [yielded, h1, Option.bind_some, hd]
        cases a.tmps[d]? with
        | none => rfl
        | some v => cases v <;> rfl
      · cases hd
    split at e
    · rename_i hd
      cases e
      unfold dstOf at hd
      rw [nth_eq] at hd
      have : yielded all.toArray a.tmps j = none := by
        split at hd
        · rename_i o' ho'
          have h1 : all.toArray[j]? = some o' := by simpa using ho'
          simp [yielded, h1, hd]
        · rename_i ho'
          have h1 : all.toArray[j]? = none := by simpa using ho'
          simp [yielded, h1]
      rw [this]; rfl
    · rename_i d hd
      rw [hy d hd]
      rw [nth_eq] at e
      cases ht : tmps[d]? with
      | none =>
        rw [ht] at e
        cases e
        have : a.tmps[d]? = none := by
          have h1 := List.getElem?_eq_none_iff.1 ht
          have := hr.1
          exact Array.getElem?_eq_none (by simp at this; omega)
        rw [this]; rfl
      | some v =>
        rw [ht] at e
        obtain ⟨x, hx, hv⟩ := hr.2 d v ht
        have hx' : a.tmps[d]? = some x := by simpa using hx
        rw [hx']
        cases v <;> simp only at e
        case top => cases e
        case symb => cases e
        case raw => cases e
        case bool c =>
          have := relS_den hv (by simp); simp [den] at this; subst this
          cases e; cases c <;> cases want <;> rfl
        all_goals (
          cases e
          have hd := relS_den hv (by simp)
          have : ∀ b, x ≠ .bool b := by
            intro b hb; subst hb
            first
              | (simp [den] at hd; done)
              | (obtain ⟨L, _, _, h⟩ := den_ptr hd; cases h)
              | (obtain ⟨L, _, _, _, _, _, h⟩ := den_xs hd; cases h)
              | (obtain ⟨L, _, _, ⟨_, _, _, _, h⟩ | ⟨_, _, _, h⟩⟩ := den_ss hd <;> cases h)
              | (obtain ⟨_, _, _, _, h⟩ := den_func hd; cases h)
              | (obtain ⟨_, _, h⟩ := den_iface hd; cases h)
              | (obtain ⟨_, _, h⟩ := den_agg hd; cases h)
              | (obtain ⟨_, _, h⟩ := den_tup hd; cases h)
              | (simp only [den] at hd; split at hd <;> cases hd)
          cases x <;> first | rfl | exact absurd rfl (this _))

theorem relL_put {ρ : Ren} {tmps : List AV} {a : Act} {v : AV} {x : Value} (dst : Option Tmp) (hr : RelL ρ tmps a.tmps.toList) (hv : relS ρ v x) : RelL ρ (putT tmps dst v) (a.put dst x).tmps.toList := by
  cases dst with
  | none => exact hr
  | some d =>
    simp only [putT, setNth_eq, Act.put]
    refine ⟨by simpa using hr.1, fun k u hk => ?_⟩
    rw [Array.toList_setIfInBounds]
    have hlen := hr.1
    rw [List.getElem?_set] at hk ⊢
    split at hk
    · rename_i hdk
      split at hk
      · rename_i hlt
        cases hk
        rw [if_pos hdk, if_pos (by omega)]
        exact ⟨x, rfl, hv⟩
      · cases hk
    · rename_i hdk
      rw [if_neg hdk]
      exact hr.2 k u hk

theorem put_defers (a : Act) (dst : Option Tmp) (x : Value) : (a.put dst x).defers = a.defers := by cases dst <;> rfl

theorem undef_rel (ρ : Ren) : relS ρ (.tup []) undef := .inr (by simp [den, denL, undef])

/-- An operation's step from what its run says. -/
theorem wp_of_run {P : Program} {ρ : Ren} {w : World} {h h' : Hp} {v : AV} {o : Oper} {a : Act} {next : Act → World → Prop} {Q : Exit → Act → World → Prop} (hr : OpRuns P ρ w h h' v (execOp a.eval o))
    (hn : ∀ ρ' x w', relS ρ' v x → Step P ρ h w ρ' h' w' → next (a.put o.dst x) w') : o.wp P a w next Q := by
  obtain ⟨ρ', w', ⟨x, hx, hv⟩ | ⟨hx, rfl⟩, hs⟩ := hr
  · unfold Oper.wp; rw [hx]; exact hn ρ' x w' hv hs
  · unfold Oper.wp; rw [hx]; exact hn ρ' undef w' (undef_rel ρ') hs

theorem step_settle {P : Program} {ρ ρ' : Ren} {h h1 h2 : Hp} {w w' : World} (s : Step P ρ h w ρ' h1 w') (q : Qt h1 h2) (m : Mono h h1) : Step P ρ h w ρ' h2 w' :=
  s.trans (.refl s.rep q.heap) m q.mono

/-- The value of a result. -/
def resVal (tmps : Array Value) : ResultVar → Sem Value
  | .tmp t => pure (tmps.getD t undef)
  | .cell p t => do loadVar t (← asAddr (tmps.getD p undef))

theorem results_ok {P : Program} {ρ : Ren} {w : World} {tmps : List AV} {a : Act} (hr : RelL ρ tmps a.tmps.toList) : ∀ (rs : List ResultVar) (h h' : Hp) (l : List AV), resultsA P tmps rs h = some (l, h') → Qt h h' ∧ (Obs h' → HeapRep P ρ h.heap w →
    ∃ xs, denL ρ l = some xs ∧ (rs.mapM (resVal a.tmps)).run P w = .ok xs w)
  | [], h, h', l, e => by
    simp only [resultsA] at e; cases e
    exact ⟨.refl _, fun _ _ => ⟨[], rfl, by simp⟩⟩
  | .tmp t :: r, h, h', l, e => by
    simp only [resultsA, nth_eq] at e
    split at e
    · rename_i v hv
      split at e
      · rename_i l' h1 hk hl
        cases e
        obtain ⟨q, o⟩ := results_ok hr r h _ l' hl
        refine ⟨q, fun ho hrep => ?_⟩
        obtain ⟨xs, h1, h2⟩ := o ho hrep
        obtain ⟨x, hx, hrel⟩ := hr.2 t v hv
        have hvt : v ≠ .top := by intro e; subst e; simp [AV.known] at hk
        have hx' : a.tmps[t]? = some x := by simpa using hx
        refine ⟨x :: xs, by simp [denL, relS_den hrel hvt, h1], ?_⟩
        simp only [List.mapM_cons, resVal, Sem.run_bind, Sem.run_pure, Result.andThen_ok, h2, Array.getD_eq_getD_getElem?, hx', Option.getD_some]
      · cases e
    · cases e
  | .cell p t :: r, h, h', l, e => by
    simp only [resultsA, nth_eq] at e
    split at e
    · rename_i v hv
      split at e
      · rename_i v1 h1 hld
        split at e
        · rename_i l' h2 hl
          cases e
          obtain ⟨q1, ht, o1⟩ := loadA_ok (P := P) (ρ := ρ) (w := w) hld
          obtain ⟨q, o⟩ := results_ok hr r h1 _ l' hl
          refine ⟨q1.trans q, fun ho hrep => ?_⟩
          have ho1 : ∀ p ∈ h1.ob, p := fun p hp => ho p (q.ob p hp)
          obtain ⟨xs, g1, g2⟩ := o ho (by rw [q1.heap]; exact hrep)
          obtain ⟨x, hx, hrel⟩ := hr.2 p v hv
          have hvt : v ≠ .top := by intro e'; subst e'; simp [loadA] at hld
          obtain ⟨y, h3, h4⟩ := o1 ho1 hrep x (relS_den hrel hvt)
          have hx' : a.tmps[p]? = some x := by simpa using hx
          refine ⟨y :: xs, by simp [denL, h4, g1], ?_⟩
          have hptr : ∃ ad, x = .pointer (some ad) := by
            cases v <;> simp [loadA] at hld
            obtain ⟨L, _, _, h⟩ := den_ptr (relS_den hrel hvt)
            exact ⟨_, h⟩
          obtain ⟨ad, rfl⟩ := hptr
          simp only [Instr.loadAt, Instr.sureAddr, pure_bind] at h3
          simp only [List.mapM_cons, resVal, Sem.run_bind, Array.getD_eq_getD_getElem?, hx', Option.getD_some, asAddr, Sem.run_pure, Result.andThen_ok, h3, g2]
        · cases e
      · cases e
    · cases e

theorem resultsA_qt {P : Program} {tmps : List AV} : ∀ {rs : List ResultVar} {h h' : Hp} {l : List AV}, resultsA P tmps rs h = some (l, h') → Qt h h'
  | [], h, h', l, e => by simp only [resultsA] at e; cases e; exact .refl _
  | .tmp t :: r, h, h', l, e => by
    simp only [resultsA] at e
    split at e
    · split at e
      · rename_i hl; cases e; exact resultsA_qt hl
      · cases e
    · cases e
  | .cell p t :: r, h, h', l, e => by
    simp only [resultsA] at e
    split at e
    · split at e
      · rename_i h1 hld
        split at e
        · rename_i hl; cases e; exact (loadA_ok (P := P) (ρ := fun _ => none) (w := default) hld).1.trans (resultsA_qt hl)
        · cases e
      · cases e
    · cases e

def oneOrAllV : List Value → Value
  | [x] => x
  | l => .tuple l.toArray

theorem results_run {P : Program} {w : World} {fn : Func} {tmps : Array Value} {xs : List Value} (h : (fn.results.toList.mapM (resVal tmps)).run P w = .ok xs w) :
    (results fn tmps).run P w = .ok (oneOrAllV xs) w := by
  have hm : (fn.results.mapM (resVal tmps)).run P w = .ok xs.toArray w := by
    rw [Array.mapM_eq_mapM_toList, Sem.run_map, h]; rfl
  have he : results fn tmps = (do let vs ← fn.results.mapM (resVal tmps); pure (if h : vs.size = 1 then vs[0] else .tuple vs)) := by
    have hf : (fun r => (match r with
        | .tmp t => pure (tmps.getD t undef)
        | .cell a t => do loadVar t (← asAddr (tmps.getD a undef)) : Sem Value)) = resVal tmps := by funext r; cases r <;> rfl
    rw [← hf]
    rfl
  rw [he]
  simp only [Sem.run_bind, hm]
  simp only [Result.andThen_ok, Sem.run_pure]
  rcases xs with _ | ⟨x, _ | ⟨y, r⟩⟩ <;> simp [oneOrAllV]

theorem oneOrAll_den {ρ : Ren} {l : List AV} {xs : List Value} (h : denL ρ l = some xs) : relS ρ (oneOrAll l) (oneOrAllV xs) := by
  have hlen := denL_length _ _ h
  match l, xs, hlen with
  | [], [], _ => exact .inr (by simp [oneOrAll, oneOrAllV, den, denL])
  | [v], [x], _ =>
    obtain ⟨y, hy, hd⟩ := denL_get _ _ h 0 v rfl
    simp at hy; subst hy
    exact .inr hd
  | v :: u :: r, x :: y :: s, _ => exact .inr (by simp only [oneOrAll, oneOrAllV, den, h])

end Go.Ev

/-
  An operation looks at its operands alone.
-/
set_option linter.unusedSimpArgs false
set_option linter.unusedVariables false
namespace Go.Ev
theorem evAll_congr {t1 t2 : List AV} : ∀ {l : List Operand}, (∀ x ∈ l, evA t1 x = evA t2 x) → evAll t1 l = evAll t2 l
  | [], _ => rfl
  | x :: r, H => by
    simp only [evAll]
    rw [H x (by simp), evAll_congr (fun y hy => H y (by simp [hy]))]
theorem evParts_congr {t1 t2 : List AV} : ∀ {l : List (Nat × Operand)}, (∀ p ∈ l, evA t1 p.2 = evA t2 p.2) → evParts t1 l = evParts t2 l
  | [], _ => rfl
  | (i, x) :: r, H => by
    simp only [evParts]
    rw [H (i, x) (by simp), evParts_congr (fun y hy => H y (by simp [hy]))]
theorem evOpt_congr {t1 t2 : List AV} {o : Option Operand} (H : ∀ x ∈ o, evA t1 x = evA t2 x) : evOpt t1 o = evOpt t2 o := by
  cases o with
  | none => rfl
  | some x => simp only [evOpt]; rw [H x rfl]
theorem callee_congr {P : Program} {t1 t2 : List AV} {op : Op} (H : ∀ x ∈ op.operands.toList, evA t1 x = evA t2 x) : callee P t1 op = callee P t2 op := by
  cases op with
  | call c =>
    obtain ⟨ca, args, ats⟩ := c
    cases ca with
    | value f =>
      have h1 : evA t1 f = evA t2 f := H f (by simp [Op.operands, Call.operands])
      have h2 : evAll t1 args.toList = evAll t2 args.toList := evAll_congr (fun x hx => H x (by simp [Op.operands, Call.operands]; right; simpa using hx))
      simp only [callee, h1, h2]
    | invoke r name =>
      have h1 : evA t1 r = evA t2 r := H r (by simp [Op.operands, Call.operands])
      have h2 : evAll t1 args.toList = evAll t2 args.toList := evAll_congr (fun x hx => H x (by simp [Op.operands, Call.operands]; right; simpa using hx))
      simp only [callee, h1, h2]
    | _ => rfl
  | _ => rfl
theorem op1_congr {P : Program} {t1 t2 : List AV} {op : Op} {h : Hp} (H : ∀ x ∈ op.operands.toList, evA t1 x = evA t2 x) : op1 P t1 op h = op1 P t2 op h := by
  cases op with
  | build t ps =>
    have h1 : evParts t1 ps.toList = evParts t2 ps.toList := evParts_congr (fun p hp => H p.2 (by simp [Op.operands]; exact ⟨p.1, by simpa using hp⟩))
    simp only [op1, h1]
  | buildSlice t n ps =>
    have h1 : evParts t1 ps.toList = evParts t2 ps.toList := evParts_congr (fun p hp => H p.2 (by simp [Op.operands]; exact ⟨p.1, by simpa using hp⟩))
    simp only [op1, h1]
  | makeFunc fn first captured =>
    have h1 : evAll t1 first.toList = evAll t2 first.toList := evAll_congr (fun x hx => H x (by simp [Op.operands]; left; simpa using hx))
    have h2 : evAll t1 captured.toList = evAll t2 captured.toList := evAll_congr (fun x hx => H x (by simp [Op.operands]; right; simpa using hx))
    simp only [op1, h1, h2]
  | slice t x lo hi mx =>
    have h0 : evA t1 x = evA t2 x := H x (by simp [Op.operands])
    have h1 : evOpt t1 lo = evOpt t2 lo := evOpt_congr (fun y hy => H y (by cases hy; simp [Op.operands]))
    have h2 : evOpt t1 hi = evOpt t2 hi := evOpt_congr (fun y hy => H y (by cases hy; simp [Op.operands]))
    have h3 : evOpt t1 mx = evOpt t2 mx := evOpt_congr (fun y hy => H y (by cases hy; simp [Op.operands]))
    simp only [op1, h0, h1, h2, h3]
  | call c =>
    obtain ⟨ca, args, ats⟩ := c
    cases ca with
    | builtin b =>
      have h2 : evAll t1 args.toList = evAll t2 args.toList := evAll_congr (fun x hx => H x (by simp [Op.operands, Call.operands]; simpa using hx))
      simp only [op1, h2]
    | _ => rfl
  | makeMap t r => cases r <;> rfl
  | _ => (try rfl) <;> (simp [Op.operands] at H; simp only [op1, H])
theorem tops_get : ∀ (l : List AV) (j : Nat), (tops l)[j]? = (l[j]?).map (fun _ => AV.top)
  | [], j => by simp [tops]
  | _ :: r, 0 => by simp [tops]
  | _ :: r, j + 1 => by simp [tops, tops_get r j]
theorem tops_length : ∀ (l : List AV), (tops l).length = l.length
  | [] => rfl
  | _ :: r => by simp [tops, tops_length r]
theorem mask_length (looks : List Nat) (l : List AV) (k0 : Nat) : (mask looks l k0).length = l.length := by
  unfold mask
  induction looks with
  | nil => exact tops_length l
  | cons k r ih =>
    simp only [maskOn]
    split
    · split
      · rw [setNth_eq, List.length_set]; exact ih
      · exact ih
    · exact ih
theorem mask_get (looks : List Nat) (l : List AV) (k0 j : Nat) : (mask looks l k0)[j]? = (l[j]?).map (fun v => if mem (k0 + j) looks = true then v else .top) := by
  have hlen := fun r => mask_length r l k0
  unfold mask at hlen ⊢
  induction looks with
  | nil => simp [maskOn, tops_get, mem]
  | cons k r ih =>
    have hm : mem (k0 + j) (k :: r) = if k = k0 + j then true else mem (k0 + j) r := by
      simp only [mem]
      by_cases e : k = k0 + j
      · subst e; simp
      · have : Nat.beq k (k0 + j) = false := by rw [← Bool.not_eq_true, Nat.beq_eq]; exact e
        simp [this, e]
    rw [hm]
    simp only [maskOn]
    split
    · rename_i hb
      have hb : k0 ≤ k := Nat.le_of_ble_eq_true hb
      split
      · rename_i v hv
        rw [nth_eq] at hv
        rw [setNth_eq, List.getElem?_set, ih]
        by_cases e : k - k0 = j
        · have e2 : k = k0 + j := by omega
          have hjl : j < l.length := by rw [← e]; exact (List.getElem?_eq_some_iff.1 hv).1
          have hl2 : j < (maskOn l k0 r).length := by rw [hlen r]; exact hjl
          rw [if_pos e, if_pos (by omega), if_pos e2, ← e, hv]
          simp
        · have e2 : k ≠ k0 + j := by omega
          rw [if_neg e, if_neg e2]
      · rename_i hv
        rw [nth_eq] at hv
        rw [ih]
        by_cases e2 : k = k0 + j
        · have : k - k0 = j := by omega
          rw [this] at hv
          rw [hv]; rfl
        · rw [if_neg e2]
    · rename_i hb
      have hb : ¬ k0 ≤ k := fun e => by rw [Nat.ble_eq_true_of_le e] at hb; cases hb
      rw [ih, if_neg (by omega)]


theorem evA_mask (all : List Oper) (o : Oper) (tmps : List AV) (x : Operand) (hx : x ∈ o.op.operands.toList) : evA (mask (looksAt all o) tmps 0) x = evA tmps x := by
  cases x with
  | tmp t =>
    simp only [evA, nth_eq]
    rw [mask_get, Nat.zero_add]
    have hm : mem t (looksAt all o) = true := by
      rw [mem_iff]
      unfold looksAt
      refine List.mem_append_left _ (List.mem_filterMap.2 ⟨.tmp t, hx, rfl⟩)
    simp [hm]
  | _ => rfl
theorem wantedA_mask (all : List Oper) (o : Oper) (tmps : List AV) : wantedA all (mask (looksAt all o) tmps 0) o = wantedA all tmps o := by
  unfold wantedA
  split
  · rfl
  · rename_i j want hg
    split
    · rfl
    · rename_i d hd
      have hm : mem d (looksAt all o) = true := by
        rw [mem_iff]
        unfold looksAt
        refine List.mem_append_right _ ?_
        rw [hg]; simp [hd]
      have e : nth (mask (looksAt all o) tmps 0) d = nth tmps d := by
        rw [nth_eq, nth_eq, mask_get, Nat.zero_add]; simp [hm]
      rw [e]
theorem oper_mask (all : List Oper) (o : Oper) (tmps : List AV) {E : Env} {n : Nat} {h : Hp} : oper E n (mask (looksAt all o) tmps 0) o.op h = oper E n tmps o.op h := by
  have H := evA_mask all o tmps
  cases n with
  | zero => simp only [oper]
  | succ n =>
    simp only [oper]
    rw [callee_congr H, op1_congr H]
end Go.Ev
