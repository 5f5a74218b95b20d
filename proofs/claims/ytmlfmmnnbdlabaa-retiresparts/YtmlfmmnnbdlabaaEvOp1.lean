/-
  An operation that calls no Go function: the soundness of the evaluator, ninth part.
-/
import Derived.Test.YtmlfmmnnbdlabaaEvApp
import Derived.Test.YtmlfmmnnbdlabaaEvEntry
set_option linter.unusedSimpArgs false
set_option linter.unusedVariables false
namespace Go.Ev

theorem evA_ok {ρ : Ren} (G : GOk ρ) {tmps : List AV} {x : Operand} {v : AV} (e : evA tmps x = some v) {a : Act} (hr : RelL ρ tmps a.tmps.toList) : relS ρ v (a.eval x) := by
  cases x with
  | tmp t =>
    simp only [evA, nth_eq] at e
    obtain ⟨y, hy, h⟩ := hr.2 t v e
    simp only [Array.getElem?_toList] at hy
    simp only [Act.eval, Array.getD_eq_getD_getElem?, hy, Option.getD_some]
    exact h
  | const c => simp only [evA] at e; cases e; exact .inr (ofVal_den ρ c)
  | global g =>
    simp only [evA] at e; cases e
    obtain ⟨l, hl, h1, h2, h3⟩ := G g
    exact .inr (by simp [den, hl, h1, h2, h3, Act.eval])
  | func f => simp only [evA] at e; cases e; exact .inr (by simp [den, denL, Act.eval])

theorem evAll_ok {ρ : Ren} (G : GOk ρ) {tmps : List AV} {a : Act} (hr : RelL ρ tmps a.tmps.toList) : ∀ (xs : List Operand) (l : List AV), evAll tmps xs = some l → RelL ρ l (xs.map a.eval)
  | [], l, e => by simp [evAll] at e; subst e; exact ⟨rfl, by simp⟩
  | x :: r, l, e => by
    simp only [evAll] at e
    split at e
    · cases e
    rename_i v hv
    split at e
    · cases e
    rename_i l' hl
    cases e
    have ih := evAll_ok G hr r l' hl
    refine ⟨by simp [ih.1], fun k u hk => ?_⟩
    cases k with
    | zero => simp at hk; subst hk; exact ⟨a.eval x, by simp, evA_ok G hv hr⟩
    | succ k =>
      simp at hk
      obtain ⟨y, hy, h⟩ := ih.2 k u hk
      exact ⟨y, by simpa using hy, h⟩

theorem partOk_known {v : AV} (h : v.partOk = true) : v ≠ .top := by intro e; subst e; simp [AV.partOk, AV.oneCell] at h

theorem evParts_ok {ρ : Ren} (G : GOk ρ) {tmps : List AV} {a : Act} (hr : RelL ρ tmps a.tmps.toList) : ∀ (xs : List (Nat × Operand)) (l : List (Nat × AV)), evParts tmps xs = some l → PartsRel ρ l (xs.map fun (i, x) => (i, a.eval x))
  | [], l, e => by simp [evParts] at e; subst e; exact ⟨rfl, by simp⟩
  | (i, x) :: r, l, e => by
    simp only [evParts] at e
    split at e
    · cases e
    rename_i v hv
    split at e
    · rename_i l' hp hl
      cases e
      have ih := evParts_ok G hr r l' hl
      refine ⟨by simp [ih.1], fun k j u hk => ?_⟩
      cases k with
      | zero => simp at hk; obtain ⟨rfl, rfl⟩ := hk; exact ⟨hp, a.eval x, by simp, relS_den (evA_ok G hv hr) (partOk_known hp)⟩
      | succ k =>
        simp at hk
        obtain ⟨p, y, hy, h⟩ := ih.2 k j u hk
        exact ⟨p, y, by simpa using hy, h⟩
    · cases e

theorem evOpt_ok {ρ : Ren} (G : GOk ρ) {tmps : List AV} {a : Act} (hr : RelL ρ tmps a.tmps.toList) {x : Option Operand} {v : Option AV} (e : evOpt tmps x = some v) : OptRel ρ v (x.map a.eval) := by
  cases x with
  | none => simp [evOpt] at e; subst e; trivial
  | some x =>
    simp only [evOpt] at e
    split at e
    · cases e
    · rename_i u hu; cases e; exact evA_ok G hu hr

/-! ### small ones -/
theorem len_ok {P : Program} {ρ : Ren} {w : World} {t : TypeId} {x r : AV} {X : Value} (e : lenA P t x = some r) (hx : relS ρ x X) (a : TypeId) : ∃ z, (Builtin.len_ #[t] a #[X]).run P w = .ok z w ∧ den ρ r = some z := by
  unfold lenA at e
  split at e
  · rename_i el hu; cases e
    have := relS_den hx (by simp); simp [den] at this; subst this
    exact ⟨_, by simp [Builtin.len_, run_underlying' hu]; rfl, by simp [den, goInt]⟩
  · rename_i el wd b off n c hu; cases e
    obtain ⟨L, _, _, _, _, _, rfl⟩ := den_xs (relS_den hx (by simp))
    exact ⟨_, by simp [Builtin.len_, run_underlying' hu]; rfl, by simp [den, goInt]⟩
  · rename_i el wd b off n c hu; cases e
    obtain ⟨L, _, _, ⟨_, _, rfl, _, rfl⟩ | ⟨_, _, _, rfl⟩⟩ := den_ss (relS_den hx (by simp))
    · exact ⟨_, by simp [Builtin.len_, run_underlying' hu]; rfl, by simp [den, goInt]⟩
    · exact ⟨_, by simp [Builtin.len_, run_underlying' hu]; rfl, by simp [den, goInt]⟩
  · rename_i n el hu; cases e
    exact ⟨_, by simp [Builtin.len_, run_underlying' hu]; rfl, by simp [den, goInt]⟩
  · cases e

theorem cap_ok {P : Program} {ρ : Ren} {w : World} {t : TypeId} {x r : AV} {X : Value} (e : capA P t x = some r) (hx : relS ρ x X) (a : TypeId) : ∃ z, (Builtin.cap_ #[t] a #[X]).run P w = .ok z w ∧ den ρ r = some z := by
  unfold capA at e
  split at e
  · rename_i el hu; cases e
    have := relS_den hx (by simp); simp [den] at this; subst this
    exact ⟨_, by simp [Builtin.cap_, run_underlying' hu]; rfl, by simp [den, goInt]⟩
  · rename_i el wd b off n c hu; cases e
    obtain ⟨L, _, _, _, _, _, rfl⟩ := den_xs (relS_den hx (by simp))
    exact ⟨_, by simp [Builtin.cap_, run_underlying' hu]; rfl, by simp [den, goInt, capOr]⟩
  · rename_i el wd b off n c hu; cases e
    obtain ⟨L, _, _, ⟨_, _, _, h0, rfl⟩ | ⟨_, _, _, rfl⟩⟩ := den_ss (relS_den hx (by simp))
    · simp [capOr] at h0; subst h0
      exact ⟨_, by simp [Builtin.cap_, run_underlying' hu]; rfl, by simp [den, goInt]⟩
    · exact ⟨_, by simp [Builtin.cap_, run_underlying' hu]; rfl, by simp [den, goInt, capOr]⟩
  · cases e

theorem fold_ok {P : Program} {ρ : Ren} {w : World} {f : AV → AV → Option AV} {g : Value → Value → Sem Value} (hfg : ∀ x y z X Y, f x y = some z → relS ρ x X → relS ρ y Y → ∃ Z, (g X Y).run P w = .ok Z w ∧ relS ρ z Z) :
    ∀ (l : List AV) (xs : List Value) (x r : AV) (X : Value), foldA f x l = some r → RelL ρ l xs → relS ρ x X → ∃ Z, (xs.foldlM g X).run P w = .ok Z w ∧ relS ρ r Z
  | [], xs, x, r, X, e, hl, hx => by
    simp only [foldA] at e; cases e
    have : xs = [] := by have := hl.1; simpa using this.symm
    subst this
    exact ⟨X, by simp, hx⟩
  | y :: l, xs, x, r, X, e, hl, hx => by
    simp only [foldA] at e
    split at e
    · rename_i z hz
      obtain ⟨Y, hY, hry⟩ := hl.2 0 y (by simp)
      match xs, hY with
      | Y' :: xs', hY =>
        simp at hY; subst hY
        obtain ⟨Z, hZ, hrz⟩ := hfg x y z X Y' hz hx hry
        obtain ⟨Z', hZ', hr'⟩ := fold_ok hfg l xs' z r Z e ⟨by simpa using hl.1, fun k v hv => by
          obtain ⟨u, hu, hr⟩ := hl.2 (k + 1) v (by simpa using hv)
          exact ⟨u, by simpa using hu, hr⟩⟩ hrz
        exact ⟨Z', by simp [List.foldlM_cons, hZ, hZ'], hr'⟩
    · cases e

theorem min2_ok {P : Program} {ρ : Ren} {w : World} (x y z : AV) (X Y : Value) (e : min2A x y = some z) (hx : relS ρ x X) (hy : relS ρ y Y) : ∃ Z, (Builtin.min2 X Y).run P w = .ok Z w ∧ relS ρ z Z := by
  unfold min2A at e
  split at e
  · rename_i k c a k' d b h1 h2
    cases e
    obtain ⟨d1, t1⟩ := asI_den (ρ := ρ) h1
    obtain ⟨d2, t2⟩ := asI_den (ρ := ρ) h2
    have := relS_den hx t1; rw [d1] at this; cases this
    have := relS_den hy t2; rw [d2] at this; cases this
    exact ⟨_, by simp [Builtin.min2], .inr mkI_den⟩
  · cases e

theorem max2_ok {P : Program} {ρ : Ren} {w : World} (x y z : AV) (X Y : Value) (e : max2A x y = some z) (hx : relS ρ x X) (hy : relS ρ y Y) : ∃ Z, (Builtin.max2 X Y).run P w = .ok Z w ∧ relS ρ z Z := by
  unfold max2A at e
  split at e
  · rename_i k c a k' d b h1 h2
    cases e
    obtain ⟨d1, t1⟩ := asI_den (ρ := ρ) h1
    obtain ⟨d2, t2⟩ := asI_den (ρ := ρ) h2
    have := relS_den hx t1; rw [d1] at this; cases this
    have := relS_den hy t2; rw [d2] at this; cases this
    exact ⟨_, by simp [Builtin.max2], .inr mkI_den⟩
  · cases e

/-! ### the operation -/
/-- What an operation does, said of the machine's. -/
def OpRuns (P : Program) (ρ : Ren) (w : World) (h h' : Hp) (v : AV) (s : Sem Next) : Prop :=
  ∃ ρ' w', ((∃ x, s.run P w = .ok (.value x) w' ∧ relS ρ' v x) ∨ (s.run P w = .ok .skip w' ∧ v = .tup [])) ∧ Step P ρ h w ρ' h' w'

theorem opRuns_val {P : Program} {ρ : Ren} {w : World} {h h' : Hp} {v : AV} {s : Sem Value} {x : Value} (hs : s.run P w = .ok x w) (hd : relS ρ v x) (hr : HeapRep P ρ h.heap w) (q : h'.heap = h.heap) : OpRuns P ρ w h h' v (do pure (.value (← s))) :=
  ⟨ρ, w, .inl ⟨x, by simp [hs], hd⟩, .refl hr q⟩

theorem opRuns_step {P : Program} {ρ ρ' : Ren} {w w' : World} {h h' : Hp} {v : AV} {s : Sem Value} {x : Value} (hs : s.run P w = .ok x w') (hd : relS ρ' v x) (st : Step P ρ h w ρ' h' w') : OpRuns P ρ w h h' v (do pure (.value (← s))) :=
  ⟨ρ', w', .inl ⟨x, by simp [hs], hd⟩, st⟩

theorem opRuns_skip {P : Program} {ρ ρ' : Ren} {w w' : World} {h h' : Hp} {s : Sem Unit} (hs : s.run P w = .ok () w') (st : Step P ρ h w ρ' h' w') : OpRuns P ρ w h h' (.tup []) (do s; pure .skip) :=
  ⟨ρ', w', .inr ⟨by simp [hs], rfl⟩, st⟩

theorem val_eq {h h' : Hp} {o : Option AV} {v : AV} (e : val h o = some (v, h')) : o = some v ∧ h' = h := by
  cases o with
  | none => simp [val] at e
  | some x => simp [val] at e; exact ⟨by rw [e.1], e.2.symm⟩

theorem skp_eq {h' : Hp} {o : Option Hp} {v : AV} (e : skp o = some (v, h')) : o = some h' ∧ v = .tup [] := by
  cases o with
  | none => simp [skp] at e
  | some x => simp [skp] at e; exact ⟨by rw [e.2], e.1.symm⟩

theorem builtin_ok {P : Program} {ρ : Ren} {w : World} {b : Builtin} {ts : List TypeId} {args : List AV} {h h' : Hp} {v : AV} (e : builtinA P b ts args h = some (v, h')) :
    Mono h h' ∧ ((∀ p ∈ h'.ob, p) → Fresh ρ h.nxt h.hi → HeapRep P ρ h.heap w → ∀ xs : List Value, RelL ρ args xs → ∀ type consts, OpRuns P ρ w h h' v (builtin b ts.toArray type consts xs.toArray)) := by
  have rel1 : ∀ {x : AV} {xs : List Value}, RelL ρ [x] xs → ∃ X, xs = [X] ∧ relS ρ x X := by
    intro x xs hl
    match xs, hl.1 with
    | [X], _ => obtain ⟨y, hy, h⟩ := hl.2 0 x rfl; simp at hy; subst hy; exact ⟨_, rfl, h⟩
  have rel2 : ∀ {x y : AV} {xs : List Value}, RelL ρ [x, y] xs → ∃ X Y, xs = [X, Y] ∧ relS ρ x X ∧ relS ρ y Y := by
    intro x y xs hl
    match xs, hl.1 with
    | [X, Y], _ =>
      obtain ⟨u, hu, h⟩ := hl.2 0 x rfl; simp at hu; subst hu
      obtain ⟨u', hu', h'⟩ := hl.2 1 y rfl; simp at hu'; subst hu'
      exact ⟨_, _, rfl, h, h'⟩
  have relc : ∀ {x : AV} {r : List AV} {xs : List Value}, RelL ρ (x :: r) xs → ∃ X R, xs = X :: R ∧ relS ρ x X ∧ RelL ρ r R := by
    intro x r xs hl
    match xs, hl.1 with
    | X :: R, h1 =>
      obtain ⟨u, hu, h⟩ := hl.2 0 x rfl; simp at hu; subst hu
      exact ⟨_, _, rfl, h, ⟨by simpa using h1, fun k v hv => by
        obtain ⟨u, hu, hr⟩ := hl.2 (k + 1) v (by simpa using hv)
        exact ⟨u, by simpa using hu, hr⟩⟩⟩
  unfold builtinA at e
  split at e
  · obtain ⟨m, o⟩ := appendE_ok (ρ := ρ) (w := w) e
    refine ⟨m, fun ho hf hr xs hl type consts => ?_⟩
    obtain ⟨X, Y, rfl, hX, hY⟩ := rel2 hl
    obtain ⟨ρ', w', z, r1, r2, r3⟩ := o ho hf hr X Y hX hY type
    exact opRuns_step (s := Builtin.append_ _ type #[X, Y]) r1 (.inr r2) r3
  · split at e
    · rename_i t x _ u hu
      cases e
      refine ⟨.refl _, fun ho hf hr xs hl type consts => ?_⟩
      obtain ⟨X, rfl, hX⟩ := rel1 hl
      obtain ⟨z, hz, hd⟩ := len_ok (w := w) hu hX type
      exact opRuns_val (s := Builtin.len_ _ type #[X]) hz (.inr hd) hr rfl
    · cases e
  · split at e
    · rename_i t x _ u hu
      cases e
      refine ⟨.refl _, fun ho hf hr xs hl type consts => ?_⟩
      obtain ⟨X, rfl, hX⟩ := rel1 hl
      obtain ⟨z, hz, hd⟩ := cap_ok (w := w) hu hX type
      exact opRuns_val (s := Builtin.cap_ _ type #[X]) hz (.inr hd) hr rfl
    · cases e
  · split at e
    · rename_i x r _ u hu
      cases e
      refine ⟨.refl _, fun ho hf hr xs hl type consts => ?_⟩
      obtain ⟨X, R, rfl, hX, hR⟩ := relc hl
      obtain ⟨z, hz, hd⟩ := fold_ok (P := P) (w := w) (fun x y z X Y e hx hy => min2_ok x y z X Y e hx hy) r R x _ X hu hR hX
      exact opRuns_val (s := Builtin.min_ _ type (X :: R).toArray) (by simpa [Builtin.min_] using hz) hd hr rfl
    · cases e
  · split at e
    · rename_i x r _ u hu
      cases e
      refine ⟨.refl _, fun ho hf hr xs hl type consts => ?_⟩
      obtain ⟨X, R, rfl, hX, hR⟩ := relc hl
      obtain ⟨z, hz, hd⟩ := fold_ok (P := P) (w := w) (fun x y z X Y e hx hy => max2_ok x y z X Y e hx hy) r R x _ X hu hR hX
      exact opRuns_val (s := Builtin.max_ _ type (X :: R).toArray) (by simpa [Builtin.max_] using hz) hd hr rfl
    · cases e
  · split at e
    · rename_i t r m k _ h1 hd
      cases e
      obtain ⟨mo, o⟩ := delete_ok (ρ := ρ) (w := w) hd
      refine ⟨mo, fun ho hf hr xs hl type consts => ?_⟩
      obtain ⟨X, Y, rfl, hX, hY⟩ := rel2 hl
      obtain ⟨w', r1, r2⟩ := o hr r type X Y hX hY
      exact opRuns_step (s := Builtin.delete_ _ type #[X, Y]) r1 (.inr (by simp [den, denL])) r2
    · cases e
  · cases e

theorem op1_ok {P : Program} {ρ : Ren} {w : World} {tmps : List AV} {o : Oper} {h h' : Hp} {v : AV} (e : op1 P tmps o.op h = some (v, h')) :
    Mono h h' ∧ ((∀ p ∈ h'.ob, p) → Fresh ρ h.nxt h.hi → HeapRep P ρ h.heap w → GOk ρ → ∀ a : Act, RelL ρ tmps a.tmps.toList → OpRuns P ρ w h h' v (execOp a.eval o)) := by
  obtain ⟨dst, op, type, pos, after, guard⟩ := o
  simp only at e
  unfold op1 at e
  split at e
  -- move, assign
  · have e0 := val_eq e; clear e; obtain ⟨e, rfl⟩ := e0
    exact ⟨.refl _, fun ho hf hr G a hl => ⟨ρ, w, .inl ⟨_, by simp [execOp], evA_ok G e hl⟩, .refl hr rfl⟩⟩
  · have e0 := val_eq e; clear e; obtain ⟨e, rfl⟩ := e0
    exact ⟨.refl _, fun ho hf hr G a hl => ⟨ρ, w, .inl ⟨_, by simp [execOp], evA_ok G e hl⟩, .refl hr rfl⟩⟩
  -- pick
  · split at e
    · rename_i c x y _ _ _ vc vx vy hc hx hy
      split at e
      · rename_i h1 hd
        cases e
        obtain ⟨q, o⟩ := dec_qt hd
        refine ⟨q.mono, fun ho hf hr G a hl => ⟨ρ, w, .inl ⟨_, ?_, evA_ok G hx hl⟩, .refl hr q.heap⟩⟩
        have h2 := evA_ok G hc hl
        have : a.eval c = .bool true := by
          rcases o ho with rfl | rfl <;> (have := relS_den h2 (by simp); simp [den] at this; exact this.symm)
        simp [execOp, this, asBool]
      · rename_i h1 hd
        cases e
        obtain ⟨q, o⟩ := dec_qt hd
        refine ⟨q.mono, fun ho hf hr G a hl => ⟨ρ, w, .inl ⟨_, ?_, evA_ok G hy hl⟩, .refl hr q.heap⟩⟩
        have h2 := evA_ok G hc hl
        have : a.eval c = .bool false := by
          rcases o ho with rfl | rfl <;> (have := relS_den h2 (by simp); simp [den] at this; exact this.symm)
        simp [execOp, this, asBool]
      · cases e
    · cases e
  -- alloc
  · split at e
    · rename_i el _ z hz
      obtain ⟨m, ht, o⟩ := newA_ok (P := P) (ρ := ρ) (w := w) e
      refine ⟨m, fun ho hf hr G a hl => ?_⟩
      obtain ⟨zv, hzr, rfl⟩ := run_zero (w := w) hz
      obtain ⟨ρ', r1, r2, r3⟩ := o hf hr el zv (.inr (ofVal_den ρ zv))
      exact opRuns_step (s := Instr.alloc el true (.tuple #[])) (by simp [Instr.alloc, hzr, r1]) (.inr r2) r3
    · cases e
  -- box
  · split at e
    · rename_i t x _ u hx
      obtain ⟨m, ht, o⟩ := newA_ok (P := P) (ρ := ρ) (w := w) e
      refine ⟨m, fun ho hf hr G a hl => ?_⟩
      obtain ⟨ρ', r1, r2, r3⟩ := o hf hr t _ (evA_ok G hx hl)
      exact opRuns_step (s := Instr.box t _) (by simp [Instr.box, r1]) (.inr r2) r3
    · cases e
  -- build
  · split at e
    · rename_i t ps _ l hp
      have e0 := val_eq e; clear e; obtain ⟨e, rfl⟩ := e0
      refine ⟨.refl _, fun ho hf hr G a hl => ?_⟩
      have hpr := evParts_ok G hl ps.toList l hp
      obtain ⟨x, h1, h2⟩ := build_ok (w := w) (vs := ps.map fun (i, x) => (i, a.eval x)) e (by simpa using hpr)
      exact opRuns_val (s := Instr.build t _) h1 (.inr h2) hr rfl
    · cases e
  -- buildSlice
  · split at e
    · rename_i t n ps _ l hp
      obtain ⟨m, ht, o⟩ := buildSlice_ok (P := P) (ρ := ρ) (w := w) e
      refine ⟨m, fun ho hf hr G a hl => ?_⟩
      have hpr := evParts_ok G hl ps.toList l hp
      obtain ⟨ρ', w', x, h1, h2, h3⟩ := o hf hr (ps.map fun (i, x) => (i, a.eval x)) (by simpa using hpr)
      exact opRuns_step (s := Instr.buildSlice t n _) h1 (.inr h2) h3
    · cases e
  -- load
  · split at e
    · rename_i t x _ u hx
      obtain ⟨q, ht, o⟩ := loadA_ok (P := P) (ρ := ρ) (w := w) e
      refine ⟨q.mono, fun ho hf hr G a hl => ?_⟩
      have h1 := evA_ok G hx hl
      have hu : u ≠ .top := by intro e'; subst e'; simp [loadA] at e
      obtain ⟨y, h2, h3⟩ := o ho hr _ (relS_den h1 hu)
      exact opRuns_val (s := Instr.loadAt t _) h2 (.inr h3) hr q.heap
    · cases e
  -- store
  · split at e
    · rename_i t x y _ _ u v' hx hy
      have e0 := skp_eq e; clear e; obtain ⟨e, rfl⟩ := e0
      obtain ⟨m, o⟩ := storeA_ok (P := P) (ρ := ρ) (w := w) e
      refine ⟨m, fun ho hf hr G a hl => ?_⟩
      obtain ⟨w', h1, h2⟩ := o ho hr _ _ (evA_ok G hx hl) (evA_ok G hy hl)
      exact opRuns_skip (s := Instr.storeAt t _ _) h1 h2
    · cases e
  -- nilCheck
  · split at e
    · rename_i x _ b i j hx
      cases e
      refine ⟨.refl _, fun ho hf hr G a hl => ?_⟩
      have h1 := evA_ok G hx hl
      obtain ⟨L, hL, hnil, h2⟩ := den_ptr (relS_den h1 (by simp))
      exact ⟨ρ, w, .inl ⟨a.eval x, by simp [execOp, h2], h1⟩, .refl hr rfl⟩
    · cases e
  -- binOp
  · split at e
    · rename_i op t x y yt _ _ u v' hx hy
      obtain ⟨q, ht, o⟩ := binE_ok (P := P) (ρ := ρ) (w := w) e
      refine ⟨q.mono, fun ho hf hr G a hl => ?_⟩
      obtain ⟨z, h1, h2⟩ := o ho hr x y _ _ (evA_ok G hx hl) (evA_ok G hy hl)
      exact opRuns_val (s := do eqGuard op t x y (a.eval x) (a.eval y); binOp op t (a.eval x) (a.eval y)) h1 (.inr h2) hr q.heap
    · cases e
  -- unOp
  · split at e
    · rename_i op t x _ u hx
      have e0 := val_eq e; clear e; obtain ⟨e, rfl⟩ := e0
      refine ⟨.refl _, fun ho hf hr G a hl => ?_⟩
      obtain ⟨z, h1, h2⟩ := un_ok (P := P) (w := w) e (evA_ok G hx hl)
      exact opRuns_val (s := Op.unary op _) h1 (.inr h2) hr rfl
    · cases e
  -- convert
  · split at e
    · rename_i src dst' x _ _ u d hx hsrc
      have e0 := val_eq e; clear e; obtain ⟨e, rfl⟩ := e0
      refine ⟨.refl _, fun ho hf hr G a hl => ?_⟩
      obtain ⟨z, h1, h2⟩ := conv_ok (P := P) (w := w) ⟨d, hsrc⟩ e (evA_ok G hx hl)
      exact opRuns_val (s := convert src dst' _) h1 (.inr h2) hr rfl
    · cases e
  -- makeInterface
  · split at e
    · cases e
    · rename_i t x _ _ u d hn hx hu
      split at e
      · rename_i hk
        cases e
        refine ⟨.refl _, fun ho hf hr G a hl => ?_⟩
        have hut : u ≠ .top := by intro e; subst e; simp [AV.known] at hk
        have h1 := relS_den (evA_ok G hx hl) hut
        refine opRuns_val (s := Instr.makeInterface t _) (x := .iface t (a.eval x)) ?_ (.inr (by simp [den, h1])) hr rfl
        simp only [Instr.makeInterface, Sem.run_bind, run_underlying' hu, Result.andThen_ok]
        cases d <;> first | rfl | exact absurd rfl (hn _)
      · cases e
    · cases e
  -- makeFunc
  · split at e
    · rename_i fn first captured _ _ l m hl1 hm1
      split at e
      · rename_i hk1 hk2
        cases e
        refine ⟨.refl _, fun ho hf hr G a hl => ?_⟩
        have h1 := (evAll_ok G hl _ _ hl1).den (allKnown_mem hk1)
        have h2 := (evAll_ok G hl _ _ hm1).den (allKnown_mem hk2)
        refine opRuns_val (s := Instr.makeFunc fn (first.map a.eval) (captured.map a.eval)) (x := .func fn (first.map a.eval) (captured.map a.eval)) (by simp [Instr.makeFunc]) (.inr ?_) hr rfl
        simp only [den, h1, h2]
        congr 1
        congr 1 <;> exact Array.ext' (by simp)
      · cases e
    · cases e
  -- makeMap
  · rename_i t
    obtain ⟨m, ht, o⟩ := makeMap_ok (P := P) (ρ := ρ) (w := w) e
    refine ⟨m, fun ho hf hr G a hl => ?_⟩
    obtain ⟨ρ', w', x, h1, h2, h3⟩ := o hf hr
    exact opRuns_step (s := Instr.makeMap t none) h1 (.inr h2) h3
  -- makeSlice
  · split at e
    · rename_i t x y _ _ u v' hx hy
      obtain ⟨m, ht, o⟩ := makeSliceE_ok (P := P) (ρ := ρ) (w := w) e
      refine ⟨m, fun ho hf hr G a hl => ?_⟩
      obtain ⟨ρ', w', z, h1, h2, h3⟩ := o ho hf hr _ _ (evA_ok G hx hl) (evA_ok G hy hl)
      exact opRuns_step (s := Instr.makeSlice t _ _) h1 (.inr h2) h3
    · cases e
  -- slice
  · split at e
    · rename_i t x lo hi mx _ _ _ _ u lo' hi' mx' hx hlo hhi hmx
      rcases sliceE_cases e with e | ⟨l, r, rfl, rfl, rfl, e2⟩
      · obtain ⟨q, ht, o⟩ := slice_ok (P := P) (ρ := ρ) (w := w) e
        refine ⟨q.mono, fun ho hf hr G a hl => ?_⟩
        obtain ⟨z, h1, h2⟩ := o ho _ _ _ _ (evA_ok G hx hl) (evOpt_ok G hl hlo) (evOpt_ok G hl hhi) (evOpt_ok G hl hmx)
        exact opRuns_val (s := Instr.sliceAt t _ _ _ _) h1 (.inr h2) hr q.heap
      · obtain ⟨m, o⟩ := sliceTail_ok (P := P) (ρ := ρ) (w := w) e2
        refine ⟨hints_mono' m, fun ho hf hr G a hl => ?_⟩
        have elo := evOpt_ok G hl hlo
        have ehi := evOpt_ok G hl hhi
        have emx := evOpt_ok G hl hmx
        cases lo with
        | none => simp [OptRel] at elo
        | some l0 =>
          cases hi with
          | some _ => simp [OptRel] at ehi
          | none =>
            cases mx with
            | some _ => simp [OptRel] at emx
            | none =>
              obtain ⟨ρ', z, h1, h2, h3⟩ := o ho hf hr _ _ (evA_ok G hx hl) elo
              exact opRuns_step (s := Instr.sliceAt t _ (some _) none none) h1 (.inr h2) h3.of_hints
    · cases e
  -- fieldAddr
  · split at e
    · rename_i t x f _ u hx
      have e0 := val_eq e; clear e; obtain ⟨e, rfl⟩ := e0
      refine ⟨.refl _, fun ho hf hr G a hl => ?_⟩
      obtain ⟨z, h1, h2⟩ := fieldAddr_ok (P := P) (w := w) e (evA_ok G hx hl)
      exact opRuns_val (s := Instr.fieldAt t _ f) h1 (.inr h2) hr rfl
    · cases e
  -- field
  · split at e
    · rename_i t x f _ u hx
      have e0 := val_eq e; clear e; obtain ⟨e, rfl⟩ := e0
      refine ⟨.refl _, fun ho hf hr G a hl => ?_⟩
      obtain ⟨z, h1, h2⟩ := field_ok (P := P) (w := w) e (evA_ok G hx hl)
      exact opRuns_val (s := Instr.field t _ f) h1 (.inr h2) hr rfl
    · cases e
  -- indexAddr
  · split at e
    · rename_i t x i _ _ u v' hx hi
      obtain ⟨q, ht, o⟩ := indexAddr_ok (P := P) (ρ := ρ) (w := w) e
      refine ⟨q.mono, fun ho hf hr G a hl => ?_⟩
      obtain ⟨z, h1, h2⟩ := o ho _ _ (evA_ok G hx hl) (evA_ok G hi hl)
      exact opRuns_val (s := Instr.indexAt t _ _) h1 (.inr h2) hr q.heap
    · cases e
  -- index
  · split at e
    · rename_i t x i _ _ u v' hx hi
      obtain ⟨q, o⟩ := index_ok (P := P) (ρ := ρ) (w := w) e
      refine ⟨q.mono, fun ho hf hr G a hl => ?_⟩
      obtain ⟨z, h1, h2⟩ := o ho _ _ (evA_ok G hx hl) (evA_ok G hi hl)
      exact opRuns_val (s := Instr.index t _ _) h1 (.inr h2) hr q.heap
    · cases e
  -- lookup
  · split at e
    · rename_i t m k ok _ _ u v' hx hi
      have e0 := val_eq e; clear e; obtain ⟨e, rfl⟩ := e0
      refine ⟨.refl _, fun ho hf hr G a hl => ?_⟩
      obtain ⟨z, h1, h2⟩ := lookup_ok (P := P) (w := w) e hr (evA_ok G hx hl) (evA_ok G hi hl)
      exact opRuns_val (s := Instr.lookup t _ _ ok) h1 (.inr h2) hr rfl
    · cases e
  -- mapUpdate, insert
  · split at e
    · rename_i t m k x _ _ _ u v' x' hm hk hx
      have e0 := skp_eq e; clear e; obtain ⟨e, rfl⟩ := e0
      obtain ⟨mo, o⟩ := update_ok (P := P) (ρ := ρ) (w := w) e
      refine ⟨mo, fun ho hf hr G a hl => ?_⟩
      obtain ⟨w', h1, h2⟩ := o hr _ _ _ (evA_ok G hm hl) (evA_ok G hk hl) (evA_ok G hx hl)
      exact opRuns_skip (s := Instr.mapUpdate t _ _ _) h1 h2
    · cases e
  · split at e
    · rename_i t m k x _ _ _ u v' x' hm hk hx
      have e0 := skp_eq e; clear e; obtain ⟨e, rfl⟩ := e0
      obtain ⟨mo, o⟩ := update_ok (P := P) (ρ := ρ) (w := w) e
      refine ⟨mo, fun ho hf hr G a hl => ?_⟩
      obtain ⟨w', h1, h2⟩ := o hr _ _ _ (evA_ok G hm hl) (evA_ok G hk hl) (evA_ok G hx hl)
      exact opRuns_skip (s := Instr.mapUpdate t _ _ _) h1 h2
    · cases e
  -- mapEntry, entryStore
  · split at e
    · rename_i t m k _ _ u v' hm hk
      obtain ⟨mo, hne, o⟩ := entryA_ok (P := P) (ρ := ρ) (w := w) e
      refine ⟨mo, fun ho hf hr G a hl => ?_⟩
      obtain ⟨ρ', x, w', h1, h2, h3⟩ := o hf hr _ _ (evA_ok G hm hl) (evA_ok G hk hl)
      exact opRuns_step (s := Instr.mapEntry t _ _) h1 (.inr h2) h3
    · cases e
  · split at e
    · rename_i t m s x _ _ _ u v' x' hm hk hx
      have e0 := skp_eq e; clear e; obtain ⟨e, rfl⟩ := e0
      obtain ⟨mo, o⟩ := entryStoreA_ok (P := P) (ρ := ρ) (w := w) e
      refine ⟨mo, fun ho hf hr G a hl => ?_⟩
      obtain ⟨w', h1, h2⟩ := o hr _ _ _ (evA_ok G hm hl) (evA_ok G hk hl) (evA_ok G hx hl)
      exact opRuns_skip (s := Instr.entryStore t _ _ _) h1 h2
    · cases e
  -- typeAssert
  · rename_i x xt t ok
    split at e
    · cases e
    · rename_i t' u d hn hx hu
      have hkey : GOk ρ → ∀ (a : Act), RelL ρ tmps a.tmps.toList → ∃ y, a.eval x = .iface t' y ∧ den ρ u = some y := by
        intro G a hl
        have := relS_den (evA_ok G hx hl) (by simp)
        simp only [den] at this
        cases hd : den ρ u with
        | none => simp [hd] at this
        | some y => simp only [hd] at this; exact ⟨y, (Option.some.inj this).symm, rfl⟩
      have hund : ∀ {α : Type} (f : TypeDesc → α) (g : α), (∀ ms, d = .interface ms → False) := fun _ _ ms h => hn ms h
      split at e
      · rename_i hb
        cases e
        have hb := Nat.eq_of_beq_eq_true hb; subst hb
        refine ⟨.refl _, fun ho hf hr G a hl => ?_⟩
        obtain ⟨y, h1, h2⟩ := hkey G a hl
        refine opRuns_val (s := Instr.typeAssert (a.eval x) xt t' true) (x := .tuple #[y, .bool true]) ?_ (.inr (by simp [den, denL, h2])) hr rfl
        rw [h1]
        simp only [Instr.typeAssert, Sem.run_bind, run_underlying' hu, Result.andThen_ok]
        cases d <;> first | (simp; done) | exact absurd rfl (hn _)
      · rename_i hb
        cases e
        have hb := Nat.eq_of_beq_eq_true hb; subst hb
        refine ⟨.refl _, fun ho hf hr G a hl => ?_⟩
        obtain ⟨y, h1, h2⟩ := hkey G a hl
        refine opRuns_val (s := Instr.typeAssert (a.eval x) xt t' false) (x := y) ?_ (.inr h2) hr rfl
        rw [h1]
        simp only [Instr.typeAssert, Sem.run_bind, run_underlying' hu, Result.andThen_ok]
        cases d <;> first | (simp; done) | exact absurd rfl (hn _)
      · rename_i hb
        have hb : t' ≠ t := by intro h; subst h; simp at hb
        split at e
        · rename_i z hz
          cases e
          refine ⟨.refl _, fun ho hf hr G a hl => ?_⟩
          obtain ⟨y, h1, h2⟩ := hkey G a hl
          obtain ⟨zv, hzr, rfl⟩ := run_zero (w := w) hz
          refine opRuns_val (s := Instr.typeAssert (a.eval x) xt t true) (x := .tuple #[zv, .bool false]) ?_ (.inr (by simp [den, denL, ofVal_den])) hr rfl
          rw [h1]
          simp only [Instr.typeAssert, Sem.run_bind, run_underlying' hu, Result.andThen_ok]
          cases d <;> first | (simp [hb, hzr]; done) | exact absurd rfl (hn _)
        · cases e
      · cases e
    · rename_i d hn hx hu
      split at e
      · rename_i z hz
        cases e
        refine ⟨.refl _, fun ho hf hr G a hl => ?_⟩
        have h1 : a.eval x = .nilIface := by
          have := relS_den (evA_ok G hx hl) (by simp)
          simp [den] at this; exact this.symm
        obtain ⟨zv, hzr, rfl⟩ := run_zero (w := w) hz
        refine opRuns_val (s := Instr.typeAssert (a.eval x) xt t true) (x := .tuple #[zv, .bool false]) ?_ (.inr (by simp [den, denL, ofVal_den])) hr rfl
        rw [h1]
        simp only [Instr.typeAssert, Sem.run_bind, run_underlying' hu, Result.andThen_ok]
        cases d <;> first | (simp [hzr]; done) | exact absurd rfl (hn _)
      · cases e
    · cases e
  -- extract
  · split at e
    · rename_i x i _ l hx
      have e0 := val_eq e; clear e; obtain ⟨e, rfl⟩ := e0
      refine ⟨.refl _, fun ho hf hr G a hl => ?_⟩
      obtain ⟨xs, hxs, h1⟩ := den_tup (relS_den (evA_ok G hx hl) (by simp))
      rw [nth_eq] at e
      obtain ⟨y, hy, hd⟩ := denL_get _ _ hxs i v e
      exact opRuns_val (s := Instr.extract _ i) (x := y) (by simp [h1, Instr.extract, hy]) (.inr hd) hr rfl
    · cases e
  -- a builtin
  · split at e
    · rename_i b args ts _ l hl1
      obtain ⟨m, o⟩ := builtin_ok (ρ := ρ) (w := w) e
      refine ⟨m, fun ho hf hr G a hl => ?_⟩
      exact o ho hf hr (args.map a.eval).toList (by rw [Array.toList_map]; exact evAll_ok G hl _ _ hl1) type _
    · cases e
  · cases e

end Go.Ev
