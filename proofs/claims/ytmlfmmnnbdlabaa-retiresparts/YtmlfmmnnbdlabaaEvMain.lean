/-
  THE EVALUATOR IS SOUND: what it says of code, and of a call, holds of the machine.
-/
import Derived.Test.YtmlfmmnnbdlabaaEvLoc2
set_option linter.unusedSimpArgs false
set_option linter.unusedVariables false
namespace Go.Ev

structure AllOk (E : Env) (n : Nat) : Prop where
  ex : ∀ c s e s', exec E n c s = some (e, s') → ExOk E.P c s e s'
  lp : ∀ c s e s', loopX E n c s = some (e, s') → LpOk E.P n c s e s'
  sq : ∀ all i rest s s', seqOps E n all i rest s = some s' → SqOk E.P all rest s s'
  op : ∀ tm op h v h', oper E n tm op h = some (v, h') → OpOk E.P tm op h v h'
  ca : ∀ f args h v h', callF E n f args h = some (v, h') → CaOk E.P f args h v h'

/-- The machine behind a scope into which one jumps. -/
def Exit.inner (P : Program) (body : Code) (Q : Exit → Act → World → Prop) : Exit → Act → World → Prop
  | .goto l, a, w => match findLabel body l with
    | some rest => rest.wp P (Exit.noGoto Q) a w
    | none => Q (.goto l) a w
  | e, a, w => Q e a w

theorem wp_scope_jump {P : Program} {Q : Exit → Act → World → Prop} {a : Act} {w : World} {c : Code} (h : c.wp P (Exit.inner P c Q) a w) : (Code.scope c).wp P Q a w := by
  intro b k cs
  obtain ⟨e, a₁, w₁, hq, harr⟩ := h b (.inScope c :: k) cs
  cases e with
  | normal => exact ⟨.normal, a₁, w₁, hq, .head step_scope (Steps.trans harr (.one step_inScope))⟩
  | exit id => exact ⟨.exit id, a₁, w₁, hq, fun k' hk => .head step_scope (harr k' (by simp [exitTo, hk]))⟩
  | ret => exact ⟨_, a₁, w₁, hq, .of_steps (.one step_scope) harr⟩
  | panic ch => exact ⟨_, a₁, w₁, hq, .of_steps (.one step_scope) harr⟩
  | outgrown => exact ⟨_, a₁, w₁, hq, .of_steps (.one step_scope) harr⟩
  | goto l =>
    simp only [Exit.inner] at hq
    cases hf : findLabel c l with
    | none =>
      rw [hf] at hq
      exact ⟨.goto l, a₁, w₁, hq, fun k' hk => .head step_scope (harr k' (by simp [gotoIn, hf, hk]))⟩
    | some rest =>
      rw [hf] at hq
      have hjump : Steps P (lone (b.at a (.code (.scope c) :: k)) cs w) (lone (b.at a₁ (.code rest :: .inScope c :: k)) cs w₁) := .head step_scope (harr _ (by simp [gotoIn, hf]))
      obtain ⟨e₂, a₂, w₂, hq₂, harr₂⟩ := hq b (.inScope c :: k) cs
      cases e₂ with
      | normal => exact ⟨.normal, a₂, w₂, hq₂, hjump.trans (Steps.trans harr₂ (.one step_inScope))⟩
      | exit id => exact ⟨.exit id, a₂, w₂, hq₂, fun k' hk => hjump.trans (harr₂ k' (by simp [exitTo, hk]))⟩
      | goto l => exact hq₂.elim
      | ret => exact ⟨_, a₂, w₂, hq₂, .of_steps hjump harr₂⟩
      | panic ch => exact ⟨_, a₂, w₂, hq₂, .of_steps hjump harr₂⟩
      | outgrown => exact ⟨_, a₂, w₂, hq₂, .of_steps hjump harr₂⟩

theorem exOf_then {next : Act → World → Prop} {Q : Exit → Act → World → Prop} {e : Ex} {a : Act} {w : World} (hn : e = .norm → next a w) (hq : e ≠ .norm → Q (exOf e) a w) : Exit.then next Q (exOf e) a w := by
  cases e with
  | norm => exact hn rfl
  | exit id => exact hq (by simp)
  | goto l => exact hq (by simp)
  | ret => exact hq (by simp)

theorem Post.step {P : Program} {ρ ρ' : Ren} {h h1 : Hp} {w w1 : World} {e : Ex} {s' : St} {Q : Exit → Act → World → Prop} (p : Post P ρ h w e s' Q) (st : Step P ρ h w ρ' h1 w1) (m : Mono h h1) (m' : Mono h1 s'.hp) : Post P ρ' h1 w1 e s' Q :=
  fun ρ'' a' w' hr hd hs => p ρ'' a' w' hr hd (st.trans hs m m')

theorem notTmp_ne {d : Nat} {v : Operand} (h : notTmp d v = true) : v ≠ .tmp d := by
  intro e; subst e; simp [notTmp] at h

theorem eval_put {a : Act} {d : Nat} {x : Value} {v : Operand} (h : v ≠ .tmp d) : (a.put (some d) x).eval v = a.eval v := by
  cases v with
  | tmp y =>
    have hy : d ≠ y := fun e => h (by rw [e])
    simp [Act.eval, Act.put, Array.getElem?_setIfInBounds_ne hy, Array.getD_eq_getD_getElem?]
  | const v => rfl
  | global g => rfl
  | func f => rfl

theorem eval_put_same {a : Act} {d : Nat} {x : Value} (h : d < a.tmps.size) : (a.put (some d) x).eval (.tmp d) = x := by
  simp [Act.eval, Act.put, h, Array.getD_eq_getD_getElem?]

theorem fuse_eq {l rest : List Oper} {t : TypeId} {x d e : Nat} {k v : Operand} (h : fuse l = some (t, x, k, v, d, e, rest)) : ∃ y1 p1 a1 y2 p2 a2 y3 p3 a3,
    l = ⟨some d, .mapEntry t (.tmp x) k, y1, p1, a1, none⟩ :: ⟨some e, .extract (.tmp d) 1, y2, p2, a2, none⟩ :: ⟨none, .entryStore t (.tmp x) (.tmp e) v, y3, p3, a3, none⟩ :: rest ∧ x ≠ d ∧ x ≠ e ∧ v ≠ .tmp d ∧ v ≠ .tmp e ∧ d ≠ e := by
  unfold fuse at h
  split at h
  · split at h
    · rename_i h1 h2 h3 h4 h5 h6 h7 h8 h9
      cases h
      have h1 := Nat.eq_of_beq_eq_true h1; subst h1
      have h2 := Nat.eq_of_beq_eq_true h2; subst h2
      have h3 := Nat.eq_of_beq_eq_true h3; subst h3
      have h4 := Nat.eq_of_beq_eq_true h4; subst h4
      refine ⟨_, _, _, _, _, _, _, _, _, rfl, fun e => ?_, fun e => ?_, notTmp_ne h7, notTmp_ne h8, fun e => ?_⟩
      · subst e; simp at h5
      · subst e; simp at h6
      · subst e; simp at h9
    · cases h
  · cases h

theorem wanted_none {all : Array Oper} {tm : Array Value} {d : Option Tmp} {op : Op} {y : TypeId} {p : String} {af : Array Edge} : Region.wanted ⟨d, op, y, p, af, none⟩ (yielded all tm) = true := by
  simp [Region.wanted]

theorem fused_ok {P : Program} {all l rest : List Oper} {s s1 s' : St} (h : fused P s l = some (s1, rest)) (o2 : SqOk P all rest s1 s') : SqOk P all l s s' := by
  unfold fused at h
  split at h
  · rename_i t x k v d e rest1 hf
    obtain ⟨y1, p1, a1, y2, p2, a2, y3, p3, a3, rfl, hxd, hxe, hvd, hve, hde⟩ := fuse_eq hf
    split at h
    · rename_i m kv vv dv ev ks agg vk hm hk hv hd he hmk
      split at h
      · rename_i z0 h1 hz hu
        cases h
        have m1 := (update_ok (ρ := fun _ => none) (w := default) hu).1
        refine ⟨m1.trans o2.mono, fun ho ρ a w Q pre post => ?_⟩
        have hM := (by
          have := evA_ok pre.glob (show evA s.tmps (.tmp x) = some m from hm) pre.rel
          exact this : relS ρ m (a.eval (.tmp x)))
        have hK := evA_ok pre.glob hk pre.rel
        have hV := evA_ok pre.glob hv pre.rel
        obtain ⟨X, S, w1, w2, r1, r2, st⟩ := entry_ok hu hmk hz pre.rep hM hK hV
        have hlen := pre.rel.1
        have hdl : d < a.tmps.size := by
          rw [nth_eq] at hd
          have := (List.getElem?_eq_some_iff.1 hd).1
          simp at hlen; omega
        have hel : e < (a.put (some d) (.tuple #[X, goInt S])).tmps.size := by
          rw [nth_eq] at he
          have := (List.getElem?_eq_some_iff.1 he).1
          simp at hlen; simp [Act.put]; omega
        let b1 := a.put (some d) (.tuple #[X, goInt S])
        let b2 := b1.put (some e) (goInt S)
        unfold wpList
        rw [wanted_none, if_pos rfl]
        left
        have e1 : (execOp a.eval ⟨some d, .mapEntry t (.tmp x) k, y1, p1, a1, none⟩).run P w = .ok (.value (.tuple #[X, goInt S])) w1 := by
          simp [execOp, r1]
        unfold Oper.wp
        rw [e1]
        show wpList P all.toArray Q _ b1 w1
        unfold wpList
        rw [wanted_none, if_pos rfl]
        left
        have e2 : (execOp b1.eval ⟨some e, .extract (.tmp d) 1, y2, p2, a2, none⟩).run P w1 = .ok (.value (goInt S)) w1 := by
          have : b1.eval (.tmp d) = .tuple #[X, goInt S] := eval_put_same hdl
          simp [execOp, this, Instr.extract]
        unfold Oper.wp
        rw [e2]
        show wpList P all.toArray Q _ b2 w1
        unfold wpList
        rw [wanted_none, if_pos rfl]
        left
        have e3 : (execOp b2.eval ⟨none, .entryStore t (.tmp x) (.tmp e) v, y3, p3, a3, none⟩).run P w1 = .ok .skip w2 := by
          have q1 : b2.eval (.tmp x) = a.eval (.tmp x) := (eval_put (by simpa using hxe)).trans (eval_put (by simpa using hxd))
          have q2 : b2.eval (.tmp e) = goInt S := eval_put_same hel
          have q3 : b2.eval v = a.eval v := (eval_put hve).trans (eval_put hvd)
          simp [execOp, q1, q2, q3, r2]
        unfold Oper.wp
        rw [e3]
        show wpList P all.toArray Q rest b2 w2
        have hrel : RelL ρ (setNth (setNth s.tmps d .top) e .top) b2.tmps.toList :=
          relL_put (v := .top) (some e) (relL_put (v := .top) (some d) pre.rel (.inl rfl)) (.inl rfl)
        exact o2.wp ho ρ b2 w2 Q (pre.next st m1 hrel (by rw [put_defers, put_defers]; exact pre.defers)) (post.step st m1 o2.mono)
      · cases h
    · cases h
  · cases h

theorem all_ok {E : Env} (H : EnvOk E) : ∀ n, AllOk E n := by
  intro n
  induction n using Nat.strongRecOn with
  | _ n IH =>
  cases n with
  | zero => exact ⟨fun c s e s' h => by simp [exec] at h, fun c s e s' h => by simp [loopX] at h, fun all i rest s s' h => by simp [seqOps] at h, fun tm op h v h' e => by simp [oper] at e, fun f args h v h' e => by simp [callF] at e⟩
  | succ n =>
    have I := IH n (by omega)
    -- loops
    have hlp : ∀ c s e s', loopX E (n + 1) c s = some (e, s') → LpOk E.P (n + 1) c s e s' := by
      intro c s e s' h
      simp only [loopX] at h
      split at h
      · rename_i s1 h1
        have o1 := I.ex _ _ _ _ h1
        have o2 := I.lp _ _ _ _ h
        refine ⟨o1.mono.trans o2.mono, fun ho ρ a w Q pre post => ?_⟩
        rw [rounds_succ]
        refine o1.wp (ho.of o2.mono) ρ a w _ pre (fun ρ' a' w' hr hd hs => ?_)
        exact o2.wp ho ρ' a' w' Q (pre.next hs o1.mono hr hd) (post.step hs o1.mono o2.mono)
      · rename_i hne
        have o1 := I.ex _ _ _ _ h
        refine ⟨o1.mono, fun ho ρ a w Q pre post => ?_⟩
        rw [rounds_succ]
        refine o1.wp ho ρ a w _ pre (fun ρ' a' w' hr hd hs => exOf_then (fun he => ?_) (fun _ => post ρ' a' w' hr hd hs))
        subst he
        exact (hne s' h).elim
    refine ⟨?_, hlp, ?_, ?_, ?_⟩
    ·
      intro c s e s' h
      unfold exec at h
      split at h
      · cases h; exact ⟨.refl _, fun ho ρ a w Q pre post => wp_skip (post ρ a w pre.rel pre.defers (.refl pre.rep rfl))⟩
      · cases h; exact ⟨.refl _, fun ho ρ a w Q pre post => wp_label (post ρ a w pre.rel pre.defers (.refl pre.rep rfl))⟩
      · rename_i id ops draw
        split at h
        · split at h
          · rename_i s1 h1
            cases h
            have o1 := I.sq _ _ _ _ _ h1
            exact ⟨o1.mono, fun ho ρ a w Q pre post => wp_region_list (by have := o1.wp ho ρ a w Q pre post; simpa using this)⟩
          · cases h
        · split at h
          · rename_i ancs hs rest hanc hnode
            simp only [fNat_eq] at h
            split at h
            · rename_i ds s1 hd
              split at h
              · rename_i hord
                cases h
                exact draw_region H.good (m := n) (s1 := { s with hp := { s.hp with hints := rest } }) (fun m' tm op hp v h' hm => (IH m' (by omega)).op tm op hp v h') hanc rfl rfl rfl rfl rfl rfl hd hord
              · cases h
            · cases h
          · cases h
      · rename_i c1 c2
        split at h
        · rename_i s1 h1
          simp only [fSt_eq] at h
          have o1 := I.ex _ _ _ _ h1
          have o2 := I.ex _ _ _ _ h
          refine ⟨o1.mono.trans o2.mono, fun ho ρ a w Q pre post => wp_seq ?_⟩
          refine o1.wp (ho.of o2.mono) ρ a w _ pre (fun ρ' a' w' hr hd hs => ?_)
          exact o2.wp ho ρ' a' w' Q (pre.next hs o1.mono hr hd) (post.step hs o1.mono o2.mono)
        · rename_i hne
          have o1 := I.ex _ _ _ _ h
          refine ⟨o1.mono, fun ho ρ a w Q pre post => wp_seq ?_⟩
          refine o1.wp ho ρ a w _ pre (fun ρ' a' w' hr hd hs => exOf_then (fun he => ?_) (fun _ => post ρ' a' w' hr hd hs))
          subst he
          exact (hne s' h).elim
      · rename_i x c1 c2
        split at h
        · rename_i v hv
          split at h
          · rename_i h1 hd
            obtain ⟨q, o⟩ := dec_qt hd
            have o1 := I.ex _ _ _ _ h
            refine ⟨q.mono.trans o1.mono, fun ho ρ a w Q pre post => ?_⟩
            have hb : a.eval x = .bool true := by
              have h2 := evA_ok pre.glob hv pre.rel
              rcases o (ho.of o1.mono) with rfl | rfl <;> (have := relS_den h2 (by simp); simp [den] at this; exact this.symm)
            have st : Step E.P ρ s.hp w ρ h1 w := .refl pre.rep q.heap
            exact wp_cond_true hb (o1.wp ho ρ a w Q (pre.next st q.mono pre.rel pre.defers) (post.step st q.mono o1.mono))
          · rename_i h1 hd
            obtain ⟨q, o⟩ := dec_qt hd
            have o1 := I.ex _ _ _ _ h
            refine ⟨q.mono.trans o1.mono, fun ho ρ a w Q pre post => ?_⟩
            have hb : a.eval x = .bool false := by
              have h2 := evA_ok pre.glob hv pre.rel
              rcases o (ho.of o1.mono) with rfl | rfl <;> (have := relS_den h2 (by simp); simp [den] at this; exact this.symm)
            have st : Step E.P ρ s.hp w ρ h1 w := .refl pre.rep q.heap
            exact wp_cond_false hb (o1.wp ho ρ a w Q (pre.next st q.mono pre.rel pre.defers) (post.step st q.mono o1.mono))
          · cases h
        · cases h
      · rename_i id body
        split at h
        · rename_i i s1 h1
          have o1 := I.ex _ _ _ _ h1
          split at h
          · rename_i hb
            cases h
            have hb := Nat.eq_of_beq_eq_true hb; subst hb
            refine ⟨o1.mono, fun ho ρ a w Q pre post => wp_block ?_⟩
            refine o1.wp ho ρ a w _ pre (fun ρ' a' w' hr hd hs => ?_)
            simp only [exOf, Exit.inBlock, if_true]
            exact post ρ' a' w' hr hd hs
          · rename_i hb
            cases h
            have hb : i ≠ id := by intro e; subst e; simp at hb
            refine ⟨o1.mono, fun ho ρ a w Q pre post => wp_block ?_⟩
            refine o1.wp ho ρ a w _ pre (fun ρ' a' w' hr hd hs => ?_)
            simp only [exOf, Exit.inBlock, hb, if_false]
            exact post ρ' a' w' hr hd hs
        · rename_i hne
          have o1 := I.ex _ _ _ _ h
          refine ⟨o1.mono, fun ho ρ a w Q pre post => wp_block ?_⟩
          refine o1.wp ho ρ a w _ pre (fun ρ' a' w' hr hd hs => ?_)
          have hp := post ρ' a' w' hr hd hs
          cases e with
          | exit i => exact (hne i s' h).elim
          | norm => exact hp
          | goto l => exact hp
          | ret => exact hp
      · rename_i body
        split at h
        · split at h
          · rename_i hle
            cases h
            refine ⟨⟨fun p hp => List.mem_cons_of_mem _ hp, by simpa [Nat.ble_eq] using hle, rfl, fun n hn => mem_addAll.2 (.inr hn)⟩, fun ho ρ a w Q pre post => ?_⟩
            have hl := H.loops _ _ _ _ (ho _ (List.mem_cons_self ..))
            exact hl ρ a w Q ⟨relL_mask _ pre.rel, pre.defers, pre.rep, pre.fresh, pre.glob⟩ (fun ρ' a' w' hr hd hs => post ρ' a' w' hr hd ⟨hs.le, hs.new, hs.rep, hs.fr, hs.own⟩)
          · cases h
        · split at h
          case h_2 => cases h
          split at h
          · rename_i hin hout
            cases h
            refine ⟨⟨fun p hp => List.mem_cons_of_mem _ hp, Nat.le_add_right _ _, rfl, fun n hn => mem_addAll.2 (.inr hn)⟩, fun ho => ?_⟩
            exact lpl_ok hin hout (H.loops _ _ _ _ (ho _ (List.mem_cons_self ..)))
          · cases h
        · rename_i r hh
          have o := I.lp body _ e s' h
          have q : Qt s.hp { s.hp with hints := r } := ⟨rfl, rfl, rfl, rfl, fun p hp => hp⟩
          refine ⟨q.mono.trans o.mono, fun ho ρ a w Q pre post => wp_loop_rounds n ?_⟩
          have st : Step E.P ρ s.hp w ρ { s.hp with hints := r } w := .refl pre.rep q.heap
          exact o.wp ho ρ a w Q (pre.next st q.mono pre.rel pre.defers) (post.step st q.mono o.mono)
        · have o := I.lp body s e s' h
          exact ⟨o.mono, fun ho ρ a w Q pre post => wp_loop_rounds n (o.wp ho ρ a w Q pre post)⟩
      · cases h; exact ⟨.refl _, fun ho ρ a w Q pre post => wp_exit (post ρ a w pre.rel pre.defers (.refl pre.rep rfl))⟩
      · cases h; exact ⟨.refl _, fun ho ρ a w Q pre post => wp_goto (post ρ a w pre.rel pre.defers (.refl pre.rep rfl))⟩
      · cases h; exact ⟨.refl _, fun ho ρ a w Q pre post => wp_ret (post ρ a w pre.rel pre.defers (.refl pre.rep rfl))⟩
      · rename_i body
        split at h
        · rename_i l s1 h1
          have o1 := I.ex _ _ _ _ h1
          split at h
          · rename_i rest hf
            split at h
            · cases h
            · rename_i hng
              have o2 := I.ex _ _ _ _ h
              refine ⟨o1.mono.trans o2.mono, fun ho ρ a w Q pre post => wp_scope_jump ?_⟩
              refine o1.wp (ho.of o2.mono) ρ a w _ pre (fun ρ' a' w' hr hd hs => ?_)
              simp only [exOf, Exit.inner, hf]
              refine o2.wp ho ρ' a' w' _ (pre.next hs o1.mono hr hd) (fun ρ'' a'' w'' hr' hd' hs' => ?_)
              have hp := post ρ'' a'' w'' hr' hd' (hs.trans hs' o1.mono o2.mono)
              cases e with
              | goto l' => exact (hng l' s' h).elim
              | norm => exact hp
              | exit i => exact hp
              | ret => exact hp
          · rename_i hf
            cases h
            refine ⟨o1.mono, fun ho ρ a w Q pre post => wp_scope_jump ?_⟩
            refine o1.wp ho ρ a w _ pre (fun ρ' a' w' hr hd hs => ?_)
            simp only [exOf, Exit.inner, hf]
            exact post ρ' a' w' hr hd hs
        · rename_i hne
          have o1 := I.ex _ _ _ _ h
          refine ⟨o1.mono, fun ho ρ a w Q pre post => wp_scope_jump ?_⟩
          refine o1.wp ho ρ a w _ pre (fun ρ' a' w' hr hd hs => ?_)
          have hp := post ρ' a' w' hr hd hs
          cases e with
          | goto l => exact (hne l s' h).elim
          | norm => exact hp
          | exit i => exact hp
          | ret => exact hp
      · cases h
    ·
      intro all i rest s s' h
      unfold seqOps at h
      split at h
      · cases h
        exact ⟨.refl _, fun ho ρ a w Q pre post => post ρ a w pre.rel pre.defers (.refl pre.rep rfl)⟩
      · rename_i o rest
        split at h
        · rename_i s1 rest1 hfu
          exact fused_ok hfu (I.sq _ _ _ _ _ h)
        split at h
        · rename_i hw
          split at h
          · rename_i v h1 hop
            split at h
            · rename_i v' h2 hset
              have o1 := I.op _ _ _ _ _ hop
              have o2 := I.sq _ _ _ _ _ h
              obtain ⟨qs, hsv⟩ := settle_ok hset
              refine ⟨o1.mono.trans (qs.mono.trans o2.mono), fun ho ρ a w Q pre post => ?_⟩
              have ho2 : Obs h2 := ho.of o2.mono
              unfold wpList
              rw [wanted_ok hw pre.rel, if_pos rfl]
              left
              refine o1.wp (ho2.of qs.mono) ρ a w pre o Q _ rfl (fun ρ' x w' hx hs => ?_)
              have hs2 : Step E.P ρ s.hp w ρ' h2 w' := step_settle hs qs o1.mono
              have m2 := o1.mono.trans qs.mono
              exact o2.wp ho ρ' _ w' Q (pre.next hs2 m2 (relL_put o.dst (pre.rel.mono hs.le) (hsv ho2 ρ' x hx)) (by rw [put_defers]; exact pre.defers)) (post.step hs2 m2 o2.mono)
            · cases h
          · cases h
        · rename_i hw
          have o2 := I.sq _ _ _ _ _ h
          refine ⟨o2.mono, fun ho ρ a w Q pre post => ?_⟩
          unfold wpList
          rw [wanted_ok hw pre.rel, if_neg (by simp)]
          exact o2.wp ho ρ _ w Q ⟨relL_put o.dst pre.rel (undef_rel ρ), by rw [put_defers]; exact pre.defers, pre.rep, pre.fresh, pre.glob⟩ post
        · cases h
    ·
      intro tm op h v h' e
      simp only [oper] at e
      split at e
      · cases e
      · rename_i hc
        refine ⟨?_, ?_⟩
        · exact (op1_ok (P := E.P) (ρ := fun _ => none) (w := default) (o := ⟨none, op, 0, "", #[], none⟩) e).1
        · intro ho ρ a w pre o Q next hop hn
          subst hop
          exact wp_of_run ((op1_ok (P := E.P) (ρ := ρ) (w := w) e).2 ho pre.fresh pre.rep pre.glob a pre.rel) hn
      · rename_i f args hc
        have oc := I.ca _ _ _ _ _ e
        refine ⟨oc.mono, fun ho ρ a w pre o Q next hop hn => ?_⟩
        subst hop
        obtain ⟨xs, hxs, hrun⟩ := callee_ok H.good pre.glob (w := w) hc pre.rel
        unfold Oper.wp
        rw [hrun]
        simp only [Oper.upon]
        refine (oc.wp ho ρ w pre.rep pre.fresh pre.glob xs hxs).mono (fun e' w' ⟨x, ρ', he, hv, hs⟩ => ?_)
        subst he
        exact hn ρ' x w' hv hs
    ·
      intro f args h v h' e
      simp only [callF] at e
      split at e
      · rename_i r hs
        cases e
        unfold specTry at hs
        split at hs
        · rename_i g hg
          exact H.spec f g hg args h v h' hs
        · cases hs
      · split at e
        · rename_i fn hf
          split at e
          · rename_i c hc
            split at e
            · rename_i hk
              have body : ∀ e0 s0, exec E n c ⟨args ++ List.replicate (fn.ntmps - args.length) (.tup []), h⟩ = some (e0, s0) → (e0 = .norm ∨ e0 = .ret) → ∀ l h1, resultsA E.P s0.tmps fn.results.toList s0.hp = some (l, h1) → CaOk E.P f args h (oneOrAll l) h1 := by
                intro e0 s0 h0 he0 l h1 hres
                have o1 := I.ex _ _ _ _ h0
                have hqr : ∀ (ρ : Ren) (a : Act) (w : World), RelL ρ s0.tmps a.tmps.toList → Qt s0.hp h1 ∧ (Obs h1 → HeapRep E.P ρ s0.hp.heap w → ∃ xs, denL ρ l = some xs ∧ (fn.results.toList.mapM (resVal a.tmps)).run E.P w = .ok xs w) := fun ρ a w hr => results_ok hr fn.results.toList s0.hp h1 l hres
                have q : Qt s0.hp h1 := resultsA_qt hres
                refine ⟨o1.mono.trans q.mono, fun ho ρ w hr hf' hG xs hxs => ?_⟩
                refine calls_of_wp hf hc ?_
                have hlen := denL_length _ _ hxs
                have hrel : RelL ρ (args ++ List.replicate (fn.ntmps - args.length) (.tup [])) (xs.toArray ++ Array.replicate (fn.ntmps - xs.toArray.size) undef).toList := by
                  have h1 : (xs.toArray ++ Array.replicate (fn.ntmps - xs.toArray.size) undef).toList = xs ++ List.replicate (fn.ntmps - args.length) undef := by simp [hlen]
                  rw [h1]
                  refine relL_append (denL.rel hxs) ⟨by simp, fun k v hk => ?_⟩
                  rw [List.getElem?_replicate] at hk ⊢
                  split at hk
                  · rename_i hlt; cases hk; rw [if_pos hlt]; exact ⟨undef, rfl, undef_rel ρ⟩
                  · cases hk
                refine o1.wp (ho.of q.mono) ρ _ w _ ⟨hrel, rfl, hr, hf', hG⟩ (fun ρ' a' w' hr' hd' hs' => ?_)
                obtain ⟨_, hres'⟩ := hqr ρ' a' w' hr'
                obtain ⟨ys, hy1, hy2⟩ := hres' ho hs'.rep
                have hrun := results_run hy2
                have hfin : Step E.P ρ h w ρ' h1 w' := hs'.trans (.refl hs'.rep q.heap) o1.mono q.mono
                rcases he0 with rfl | rfl
                · exact ⟨hd', _, hrun, _, ρ', rfl, oneOrAll_den hy1, hfin⟩
                · exact ⟨hd', _, hrun, _, ρ', rfl, oneOrAll_den hy1, hfin⟩
              split at e
              · rename_i s0 h0
                split at e
                · rename_i l h1 hres; cases e; exact body _ _ h0 (.inl rfl) _ _ hres
                · cases e
              · rename_i s0 h0
                split at e
                · rename_i l h1 hres; cases e; exact body _ _ h0 (.inr rfl) _ _ hres
                · cases e
              · cases e
            · cases e
          · cases e
        · cases e

end Go.Ev
