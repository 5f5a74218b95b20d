/-
  EvFx and what follows it.
-/
import Derived.Test.YtljeiencnpnbkaaDoorEvFam
/-
  Code over a family: one member is looked at, then another one; sequences, loops, of such.
-/
set_option linter.unusedSimpArgs false
set_option linter.unusedVariables false
namespace Go.Ev

/-- What a piece of code makes of a family's state. -/
def FEx (P : Program) (F : Fam) (s0 : St) (c : Code) (x : FSt) (e : Ex) (y : FSt) : Prop :=
  ∀ ρ0 w0 ρ a w Q, Fresh ρ0 s0.hp.nxt (gnm 0) → GOk ρ0 → GInv P F ρ0 s0 w0 x ρ a.tmps.toList w → a.defers = [] →
    (∀ ρ' a' w', GInv P F ρ0 s0 w0 y ρ' a'.tmps.toList w' → a'.defers = [] → Q (exOf e) a' w') → c.wp P Q a w

/-- .. at whose end the family is given up. -/
def FOut (P : Program) (F : Fam) (s0 : St) (c : Code) (x : FSt) (e : Ex) (s1 : St) : Prop :=
  ∀ ρ0 w0 ρ a w Q, Fresh ρ0 s0.hp.nxt (gnm 0) → GOk ρ0 → GInv P F ρ0 s0 w0 x ρ a.tmps.toList w → a.defers = [] →
    Post P ρ0 s0.hp w0 e s1 Q → c.wp P Q a w

structure FGood (F : Fam) (x : FSt) : Prop where
  ok : FOk F x
  n : x.n ≤ 1000000

section
variable {E : Env} (hE : EnvOk E) {F : Fam} (hF : FamOk F) {s0 : St} (hS : SOk s0)
include hE hF hS

/-- A piece that looks at one member alone. -/
theorem fex_loc {c : Code} {x y : FSt} {e : Ex} (j : Nat) (wth wth' : Bool) {mb mb' : Mb} {fuel : Nat} {m : List (Nat × Src)} {hints : List Hint} {ob : List Prop}
    (h : roundB E fuel c (h0F F s0) m (locSt F x wth mb j []) hints (locSt F y wth' mb' j []) = some (e, ob)) (ho : ∀ p ∈ ob, p)
    (fx : FGood F x) (fy : FGood F y) (hj : wth = true → j < x.n) (hm : x.M j = mb) (hm' : y.M j = mb') (hw : (wth' = true ∧ j < y.n) ∨ (wth' = false ∧ y.n ≤ j))
    (same : ∀ i, i < y.n → i ≠ j → i < x.n ∧ y.M i = x.M i) : FEx E.P F s0 c x e y := by
  intro ρ0 w0 ρ a w Q f0 G g hd post
  subst hm
  subst hm'
  have hf1 : F.b0 < gnm 0 := by have := hF.hi; omega
  obtain ⟨s', hex, hobs, ob', hc, ho'⟩ := roundB_spec h ho
  obtain ⟨l1, l2, l3, l4⟩ := toLocS hF hS f0 fx.ok fx.n g (G.mono g.st.le) hj hints
  have o := (all_ok hE fuel).ex _ _ _ _ hex
  refine o.wp hobs _ a w _ ⟨l1, hd, l2.rep, l3, l4⟩ (fun ρ2 a2 w2 hr2 hd2 hs2 => ?_)
  have hn1 : s'.hp.nxt ≤ F.b0 := castSt_nxt hc
  have hn2 : s'.hp.nxt ≤ gnm 0 := by omega
  have all := l2.trans hs2 o.mono.wr (by show s0.hp.nxt ≤ 1000; have := hS.nxt; omega) hn2
  have all' : StepB E.P (gnm 0) ρ0 (h0F F s0) w0 ρ2 s'.hp w2 := ⟨all.le, all.new, all.rep, all.fr, all.own⟩
  obtain ⟨ρ3, q1, q2, q3, q4, q5, q6, q7, q8, q9, q10⟩ := castSt_okB all' (by show F.b0 ≤ gnm 0; omega) f0 hc ho' hr2
  have q2' : StepB E.P (gnm 0) ρ0 s0.hp w0 ρ3 (locSt F y wth' (y.M j) j []).hp w2 := ⟨q2.le, q2.new, q2.rep, q2.fr, q2.own⟩
  exact post _ a2 w2 (fromLocS hF hS f0 fx.ok fx.n g hj l2.rep hs2 hn1 o.mono.wr fy.ok fy.n hw same q1 q2' q4 q7 q8 q9 q10) hd2

/-- .. behind which there is no family any more. -/
theorem fout_loc {c : Code} {x : FSt} {s1 : St} {e : Ex} (j : Nat) (wth : Bool) {mb : Mb} {fuel : Nat} {m : List (Nat × Src)} {hints : List Hint} {ob : List Prop}
    (h : roundB E fuel c s0.hp m (locSt F x wth mb j []) hints s1 = some (e, ob)) (ho : ∀ p ∈ ob, p)
    (fx : FGood F x) (hj : wth = true → j < x.n) (hm : x.M j = mb) : FOut E.P F s0 c x e s1 := by
  intro ρ0 w0 ρ a w Q f0 G g hd post
  subst hm
  obtain ⟨s', hex, hobs, ob', hc, ho'⟩ := roundB_spec h ho
  obtain ⟨l1, l2, l3, l4⟩ := toLocS hF hS f0 fx.ok fx.n g (G.mono g.st.le) hj hints
  have o := (all_ok hE fuel).ex _ _ _ _ hex
  refine o.wp hobs _ a w _ ⟨l1, hd, l2.rep, l3, l4⟩ (fun ρ2 a2 w2 hr2 hd2 hs2 => ?_)
  have hn1 : s'.hp.nxt ≤ s0.hp.hi := castSt_nxt hc
  have all := l2.trans hs2 o.mono.wr (by show s0.hp.nxt ≤ 1000; have := hS.nxt; omega) (by rw [← hS.hi]; exact hn1)
  obtain ⟨ρ3, q1, q2, q3, q4, q5, q6, q7, _⟩ := castSt_okB all (by rw [hS.hi]; exact Nat.le_refl _) f0 hc ho' hr2
  refine post ρ3 a2 w2 q1 hd2 ⟨q2.le, fun n l h1 h2 => ⟨(q2.new n l h1 h2).1, ?_⟩, q2.rep, q2.fr, q2.own⟩
  rcases q3 n l h1 h2 with h | h
  · exact h
  · have := (q2.new n l h1 h2).2
    rw [hS.hi] at h; omega
end

section
variable {P : Program} {F : Fam} {s0 : St} {x y z : FSt} {e : Ex} {s1 : St}
theorem fex_seq {a b : Code} (h1 : FEx P F s0 a x .norm y) (h2 : FEx P F s0 b y e z) : FEx P F s0 (.seq a b) x e z := by
  intro ρ0 w0 ρ ac w Q f0 G g hd post
  refine wp_seq (h1 ρ0 w0 ρ ac w _ f0 G g hd (fun ρ' a' w' g' hd' => ?_))
  exact exOf_then (e := .norm) (fun _ => h2 ρ0 w0 ρ' a' w' Q f0 G g' hd' post) (fun h => (h rfl).elim)
theorem fex_seqX {a b : Code} (h1 : FEx P F s0 a x e y) (hne : e ≠ .norm) : FEx P F s0 (.seq a b) x e y := by
  intro ρ0 w0 ρ ac w Q f0 G g hd post
  exact wp_seq (h1 ρ0 w0 ρ ac w _ f0 G g hd (fun ρ' a' w' g' hd' => exOf_then (fun h => (hne h).elim) (fun _ => post ρ' a' w' g' hd')))
theorem fout_seq {a b : Code} (h1 : FEx P F s0 a x .norm y) (h2 : FOut P F s0 b y e s1) : FOut P F s0 (.seq a b) x e s1 := by
  intro ρ0 w0 ρ ac w Q f0 G g hd post
  refine wp_seq (h1 ρ0 w0 ρ ac w _ f0 G g hd (fun ρ' a' w' g' hd' => ?_))
  exact exOf_then (e := .norm) (fun _ => h2 ρ0 w0 ρ' a' w' Q f0 G g' hd' post) (fun h => (h rfl).elim)
theorem fex_block {id : Nat} {a : Code} (h : FEx P F s0 a x (.exit id) y) : FEx P F s0 (.block id a) x .norm y := by
  intro ρ0 w0 ρ ac w Q f0 G g hd post
  refine wp_block (h ρ0 w0 ρ ac w _ f0 G g hd (fun ρ' a' w' g' hd' => ?_))
  have := post ρ' a' w' g' hd'
  simpa [Exit.inBlock, exOf] using this
theorem fex_blockN {id : Nat} {a : Code} (h : FEx P F s0 a x .norm y) : FEx P F s0 (.block id a) x .norm y := by
  intro ρ0 w0 ρ ac w Q f0 G g hd post
  refine wp_block (h ρ0 w0 ρ ac w _ f0 G g hd (fun ρ' a' w' g' hd' => ?_))
  have := post ρ' a' w' g' hd'
  simpa [Exit.inBlock, exOf] using this
theorem fout_blockN {id : Nat} {a : Code} (h : FOut P F s0 a x .norm s1) : FOut P F s0 (.block id a) x .norm s1 := by
  intro ρ0 w0 ρ ac w Q f0 G g hd post
  refine wp_block (h ρ0 w0 ρ ac w _ f0 G g hd (fun ρ' a' w' r hd' st => ?_))
  have := post ρ' a' w' r hd' st
  simpa [Exit.inBlock, exOf] using this
theorem fout_block {id : Nat} {a : Code} (h : FOut P F s0 a x (.exit id) s1) : FOut P F s0 (.block id a) x .norm s1 := by
  intro ρ0 w0 ρ ac w Q f0 G g hd post
  refine wp_block (h ρ0 w0 ρ ac w _ f0 G g hd (fun ρ' a' w' r hd' st => ?_))
  have := post ρ' a' w' r hd' st
  simpa [Exit.inBlock, exOf] using this

/-- A loop of such rounds. -/
theorem fex_loop {c : Code} {X : Type} (T : X → FSt) (μ : X → Nat) (ok : X → Prop)
    (round : ∀ v, ok v → (∃ v', ok v' ∧ μ v' < μ v ∧ FEx P F s0 c (T v) .norm (T v')) ∨ (e ≠ .norm ∧ FEx P F s0 c (T v) e y)) (v : X) (hv : ok v) : FEx P F s0 (.loop c) (T v) e y := by
  intro ρ0 w0 ρ ac w Q f0 G g hd post
  have key : ∀ n v, μ v < n → ok v → ∀ ρ' a' w', GInv P F ρ0 s0 w0 (T v) ρ' a'.tmps.toList w' → a'.defers = [] → Code.rounds P c Q n a' w' := by
    intro n
    induction n with
    | zero => intro v h; omega
    | succ n IH =>
      intro v hv' hok ρ' a' w' g' hd'
      rw [rounds_succ]
      rcases round v hok with ⟨u, hu, hμ, hr⟩ | ⟨hne, hr⟩
      · exact hr ρ0 w0 ρ' a' w' _ f0 G g' hd' (fun ρ2 a2 w2 g2 hd2 => exOf_then (e := .norm) (fun _ => IH u (by omega) hu ρ2 a2 w2 g2 hd2) (fun h => (h rfl).elim))
      · exact hr ρ0 w0 ρ' a' w' _ f0 G g' hd' (fun ρ2 a2 w2 g2 hd2 => exOf_then (fun h => (hne h).elim) (fun _ => post ρ2 a2 w2 g2 hd2))
  exact wp_loop_rounds (μ v + 1) (key (μ v + 1) v (by omega) hv ρ ac w g hd)

theorem fex_cast {c : Code} {x' : FSt} (h : FEx P F s0 c x e y) (hx : x' = x) : FEx P F s0 c x' e y := by rw [hx]; exact h
end

/-- From a state without members on. -/
theorem fout_code {P : Program} {F : Fam} (hF : FamOk F) {s0 : St} (hS : SOk s0) {c : Code} {x : FSt} {e : Ex} {s1 : St} {m : List (Nat × Src)} {ob : List Prop} (fx : FGood F x) (hno : ∀ k, k < x.n → (x.M k).objs = [])
    (hc : castSt (h0F F s0) m s0 (locSt F x false ⟨[], []⟩ x.n []) = some ob) (ho : ∀ p ∈ ob, p) (h : FOut P F s0 c x e s1) :
    ∀ ρ a w Q, Pre P ρ s0.tmps s0.hp a w → Post P ρ s0.hp w e s1 Q → c.wp P Q a w := by
  intro ρ a w Q pre post
  have hf1 : F.b0 < gnm 0 := by have := hF.hi; omega
  have f0 : Fresh ρ s0.hp.nxt (gnm 0) := fun n h1 h2 => pre.fresh n h1 (by rw [hS.hi]; exact h2)
  have st0 : StepB P (gnm 0) ρ (h0F F s0) w ρ s0.hp w := ⟨Le.refl ρ, fun n l h1 h2 => (by rw [h1] at h2; cases h2), pre.rep, Fr.refl _ _, fun n o l h1 h2 h3 h4 => ⟨n, o, l, h1, rfl, h2, h3, rfl, .inl rfl⟩⟩
  obtain ⟨ρ3, q1, q2, q3, q4, q5, q6, q7, q8, q9, q10⟩ := castSt_okB st0 (by show F.b0 ≤ gnm 0; omega) f0 hc ho pre.rel
  have q2' : StepB P (gnm 0) ρ s0.hp w ρ3 (locSt F x false ⟨[], []⟩ x.n []).hp w := ⟨q2.le, q2.new, q2.rep, q2.fr, q2.own⟩
  exact h ρ w _ a w Q f0 pre.glob (initS hF hS f0 fx.ok fx.n hno q1 q2' q7) pre.defers post

/-! ### some statements, and what follows them -/
def seqs : List Code → Code → Code
  | [], c => c
  | a :: r, c => .seq a (seqs r c)
def headC : Nat → Code → List Code
  | 0, _ => []
  | k + 1, .seq a b => a :: headC k b
  | _ + 1, c => [c]
def tailC : Nat → Code → Code
  | 0, c => c
  | k + 1, .seq _ b => tailC k b
  | _ + 1, _ => .skip
def inBlock : Code → Code
  | .block _ c => c
  | c => c
def inLoop : Code → Code
  | .loop c => c
  | c => c
def fstC : Code → Code
  | .seq a _ => a
  | c => c
def sndC : Code → Code
  | .seq _ b => b
  | _ => .skip
/-- A row of statements, each of which goes on to the next. -/
theorem seqs_ok {E : Env} (hE : EnvOk E) : ∀ (l : List Code) (n : Nat) (s s' : St), exec E n (seqs l .skip) s = some (.norm, s') → Mono s.hp s'.hp ∧
    (Obs s'.hp → ∀ ρ a w c Q, Pre E.P ρ s.tmps s.hp a w → (∀ ρ' a' w', RelL ρ' s'.tmps a'.tmps.toList → a'.defers = [] → Step E.P ρ s.hp w ρ' s'.hp w' → c.wp E.P Q a' w') → (seqs l c).wp E.P Q a w)
  | [], n, s, s', h => by
    cases n with
    | zero => simp [exec] at h
    | succ n =>
      simp only [seqs, exec] at h
      cases h
      exact ⟨.refl _, fun ho ρ a w c Q pre post => post ρ a w pre.rel pre.defers (.refl pre.rep rfl)⟩
  | b :: l, n, s, s', h => by
    cases n with
    | zero => simp [exec] at h
    | succ n =>
      simp only [seqs, exec] at h
      split at h
      · rename_i s1 h1
        simp only [fSt_eq] at h
        have o1 := (all_ok hE n).ex _ _ _ _ h1
        obtain ⟨m2, o2⟩ := seqs_ok hE l n s1 s' h
        refine ⟨o1.mono.trans m2, fun ho ρ a w c Q pre post => ?_⟩
        show (Code.seq b (seqs l c)).wp E.P Q a w
        refine wp_seq (o1.wp (ho.of m2) ρ a w _ pre (fun ρ1 a1 w1 hr hd hs => ?_))
        refine exOf_then (e := .norm) (fun _ => ?_) (fun h => (h rfl).elim)
        exact o2 ho ρ1 a1 w1 c Q (pre.next hs o1.mono hr hd) (fun ρ' a' w' hr' hd' hs' => post ρ' a' w' hr' hd' (hs.trans hs' o1.mono m2))
      · rename_i hne
        exact (hne _ h).elim
section
variable {E : Env} (hE : EnvOk E) {F : Fam} (hF : FamOk F) {s0 : St} (hS : SOk s0)
include hE hF hS
/-- Some statements that look at one member alone, and then others. -/
theorem fex_pre {l : List Code} {x y : FSt} (j : Nat) (wth wth' : Bool) {mb mb' : Mb} {fuel : Nat} {m : List (Nat × Src)} {hints : List Hint} {ob : List Prop}
    (h : roundB E fuel (seqs l .skip) (h0F F s0) m (locSt F x wth mb j []) hints (locSt F y wth' mb' j []) = some (.norm, ob)) (ho : ∀ p ∈ ob, p)
    (fx : FGood F x) (fy : FGood F y) (hj : wth = true → j < x.n) (hm : x.M j = mb) (hm' : y.M j = mb') (hw : (wth' = true ∧ j < y.n) ∨ (wth' = false ∧ y.n ≤ j))
    (same : ∀ i, i < y.n → i ≠ j → i < x.n ∧ y.M i = x.M i) {c : Code} {e : Ex} {z : FSt} (hc : FEx E.P F s0 c y e z) : FEx E.P F s0 (seqs l c) x e z := by
  intro ρ0 w0 ρ a w Q f0 G g hd post
  subst hm
  subst hm'
  have hf1 : F.b0 < gnm 0 := by have := hF.hi; omega
  obtain ⟨s', hex, hobs, ob', hcs, ho'⟩ := roundB_spec h ho
  obtain ⟨l1, l2, l3, l4⟩ := toLocS hF hS f0 fx.ok fx.n g (G.mono g.st.le) hj hints
  obtain ⟨om, o⟩ := seqs_ok hE l fuel _ _ hex
  refine o hobs _ a w c Q ⟨l1, hd, l2.rep, l3, l4⟩ (fun ρ2 a2 w2 hr2 hd2 hs2 => ?_)
  have hn1 : s'.hp.nxt ≤ F.b0 := castSt_nxt hcs
  have hn2 : s'.hp.nxt ≤ gnm 0 := by omega
  have all := l2.trans hs2 om.wr (by show s0.hp.nxt ≤ 1000; have := hS.nxt; omega) hn2
  have all' : StepB E.P (gnm 0) ρ0 (h0F F s0) w0 ρ2 s'.hp w2 := ⟨all.le, all.new, all.rep, all.fr, all.own⟩
  obtain ⟨ρ3, q1, q2, q3, q4, q5, q6, q7, q8, q9, q10⟩ := castSt_okB all' (by show F.b0 ≤ gnm 0; omega) f0 hcs ho' hr2
  have q2' : StepB E.P (gnm 0) ρ0 s0.hp w0 ρ3 (locSt F y wth' (y.M j) j []).hp w2 := ⟨q2.le, q2.new, q2.rep, q2.fr, q2.own⟩
  exact hc ρ0 w0 _ a2 w2 Q f0 G (fromLocS hF hS f0 fx.ok fx.n g hj l2.rep hs2 hn1 om.wr fy.ok fy.n hw same q1 q2' q4 q7 q8 q9 q10) hd2 post
end
/-- A loop over a family that is given up at its end. -/
theorem fout_loop {P : Program} {F : Fam} {s0 s1 : St} {e : Ex} {c : Code} {X : Type} (T : X → FSt) (μ : X → Nat) (ok : X → Prop)
    (round : ∀ v, ok v → (∃ v', ok v' ∧ μ v' < μ v ∧ FEx P F s0 c (T v) .norm (T v')) ∨ (e ≠ .norm ∧ FOut P F s0 c (T v) e s1)) (v : X) (hv : ok v) : FOut P F s0 (.loop c) (T v) e s1 := by
  intro ρ0 w0 ρ ac w Q f0 G g hd post
  have key : ∀ n v, μ v < n → ok v → ∀ ρ' a' w', GInv P F ρ0 s0 w0 (T v) ρ' a'.tmps.toList w' → a'.defers = [] → Code.rounds P c Q n a' w' := by
    intro n
    induction n with
    | zero => intro v h; omega
    | succ n IH =>
      intro v hv' hok ρ' a' w' g' hd'
      rw [rounds_succ]
      rcases round v hok with ⟨u, hu, hμ, hr⟩ | ⟨hne, hr⟩
      · exact hr ρ0 w0 ρ' a' w' _ f0 G g' hd' (fun ρ2 a2 w2 g2 hd2 => exOf_then (e := .norm) (fun _ => IH u (by omega) hu ρ2 a2 w2 g2 hd2) (fun h => (h rfl).elim))
      · exact hr ρ0 w0 ρ' a' w' _ f0 G g' hd' (fun ρ2 a2 w2 r2 hd2 st2 => exOf_then (fun h => (hne h).elim) (fun _ => post ρ2 a2 w2 r2 hd2 st2))
  exact wp_loop_rounds (μ v + 1) (key (μ v + 1) v (by omega) hv ρ ac w g hd)

/-! ### rows of any kinds -/
theorem rowV_far {c : CM} {F : Fam} {mb : Mb} (hm : MbOk F mb) {b : Nat} (hb : ∀ k, k < F.q → c.fresh (b + k) = false) : ∀ (sh : List CK) (j0 : Nat), (∀ (j : Nat) k, sh[j]? = some k → F.sh[j0 + j]? = some k) → rowV c sh j0 (fun cc => mrow F.q b mb cc) (fun cc => mrow F.q b mb cc)
  | [], _, _ => trivial
  | k :: r, j0, h => by
    have h0 : F.sh[j0]? = some k := h 0 k rfl
    have hr := rowV_far hm hb r (j0 + 1) (fun j k hk => by
      have := h (j + 1) k (by simpa using hk)
      rwa [show j0 + (j + 1) = j0 + 1 + j by omega] at this)
    have hv := valV_far hm hb h0
    obtain ⟨v, h1, h2, h3⟩ := hm.cells j0 k h0
    cases k with
    | int k =>
      obtain ⟨n, rfl⟩ := h3
      refine ⟨?_, hr⟩
      show mrow F.q b mb j0 = .sym k (avInt (mrow F.q b mb j0))
      have e : mrow F.q b mb j0 = .sym k n := by unfold mrow; rw [h1]; rfl
      rw [e]; rfl
    | bool =>
      obtain ⟨n, rfl⟩ := h3
      refine ⟨?_, hr⟩
      show mrow F.q b mb j0 = .symb (avBool (mrow F.q b mb j0))
      have e : mrow F.q b mb j0 = .symb n := by unfold mrow; rw [h1]; rfl
      rw [e]; rfl
    | val => exact ⟨hv, hr⟩
theorem rowV_eq {c : CM} {f f' g g' : Nat → AV} (e1 : ∀ cc, f cc = f' cc) (e2 : ∀ cc, g cc = g' cc) {sh : List CK} {j : Nat} (h : rowV c sh j f' g') : rowV c sh j f g := by
  obtain rfl : f = f' := funext e1
  obtain rfl : g = g' := funext e2
  exact h
/-- All rows but j's are as they were. -/
theorem fam_rowsK {c : CM} {F : Fam} (hf : c.hi ≤ F.b0) {M M' : Nat → Mb} {n' j : Nat} {src : Nat → Nat → AV}
    (hM : ∀ i, i < n' → i ≠ j → MbOk F (M i) ∧ M' i = M i ∧ ∀ cc, src i cc = mrow F.q (F.b0 + F.q * i) (M i) cc)
    (hj : j < n' → rowV c F.sh 0 (src j) (fun cc => mrow F.q 900 (M' j) cc)) : ∀ i, i < n' → rowV c F.sh 0 (src i) (lrow F.b0 F.q M' j i) := by
  intro i hi
  by_cases e : i = j
  · subst e
    exact rowV_eq (fun _ => rfl) (fun cc => by simp [lrow]) (hj hi)
  · obtain ⟨h1, h2, h3⟩ := hM i hi e
    refine rowV_eq (f' := fun cc => mrow F.q (F.b0 + F.q * i) (M i) cc) (g' := fun cc => mrow F.q (F.b0 + F.q * i) (M i) cc) h3 (fun cc => by simp only [lrow, e, if_false]; rw [h2]) ?_
    refine rowV_far h1 (fun k hk => ?_) F.sh 0 (fun j k hk => by simpa using hk)
    cases hfr : c.fresh (F.b0 + F.q * i + k) with
    | false => rfl
    | true => have := (CM.fresh_iff.1 hfr).2; omega
end Go.Ev

/-
  A call within a region, whose body looks at all members of a family.
-/
set_option linter.unusedSimpArgs false
set_option linter.unusedVariables false
namespace Go.Ev

/-- An operation that looks at nothing but the frame. -/
def pureOp (tm : List AV) : Op → Option AV
  | .move x => evA tm x
  | .assign x => evA tm x
  | .unOp op _ x => match evA tm x with
    | some x => unA op x
    | none => none
  | _ => none
def pureOps : List Oper → List AV → Option (List AV)
  | [], tm => some tm
  | o :: r, tm => match o.guard with
    | none => match pureOp tm o.op with
      | some v => pureOps r (putT tm o.dst v)
      | none => none
    | some _ => none

theorem pureOp_ok {P : Program} {ρ : Ren} (G : GOk ρ) {tm : List AV} {a : Act} (hr : RelL ρ tm a.tmps.toList) {o : Oper} {v : AV} (e : pureOp tm o.op = some v) (w : World) : ∃ x, (execOp a.eval o).run P w = .ok (.value x) w ∧ relS ρ v x := by
  obtain ⟨dst, op, type, pos, after, guard⟩ := o
  simp only at e
  unfold pureOp at e
  split at e
  · exact ⟨_, rfl, evA_ok G e hr⟩
  · exact ⟨_, rfl, evA_ok G e hr⟩
  · rename_i op t x
    split at e
    · rename_i u hu
      obtain ⟨z, h1, h2⟩ := un_ok (P := P) (w := w) e (evA_ok G hu hr)
      exact ⟨z, by simp only [execOp]; simp [h1], .inr h2⟩
    · cases e
  · cases e
theorem pureOps_ok {P : Program} {ρ : Ren} (G : GOk ρ) {ops : Array Oper} {Q : Exit → Act → World → Prop} {w : World} {R : List Oper} : ∀ (A : List Oper) (tm tm' : List AV) (a : Act), pureOps A tm = some tm' → RelL ρ tm a.tmps.toList → a.defers = [] →
    (∀ a', RelL ρ tm' a'.tmps.toList → a'.defers = [] → wpList P ops Q R a' w) → wpList P ops Q (A ++ R) a w
  | [], tm, tm', a, h, hr, hd, k => by cases h; exact k a hr hd
  | o :: A, tm, tm', a, h, hr, hd, k => by
    unfold pureOps at h
    split at h
    · rename_i hg
      split at h
      · rename_i v hv
        obtain ⟨x, h1, h2⟩ := pureOp_ok G hr hv w
        refine wpList_plain hg (fun K hK => ?_)
        unfold Oper.wp
        rw [h1]
        rw [Oper.upon_value]
        exact hK _ _ (pureOps_ok G A _ _ _ h (relL_put o.dst hr h2) (by rw [put_defers]; exact hd) k)
      · cases h
    · cases h

/-- A frame's value that names old blocks alone; others are forgotten. -/
def lowV (B : Nat) (v : AV) : AV := match renV (fun n => match Nat.blt n B || Nat.ble (gnm 0) n with
  | true => some n
  | false => none) v with
  | some v => v
  | none => .top
theorem lowV_rel {P : Program} {ρ0 ρ ρ' : Ren} {h h1 h2 : Hp} {w0 w w' : World} (s1 : StepB P (gnm 0) ρ0 h w0 ρ h1 w) (s2 : StepB P (gnm 0) ρ0 h w0 ρ' h2 w') (G : GOk ρ0) {v : AV} {x : Value} (hx : relS ρ v x) : relS ρ' (lowV h.nxt v) x := by
  unfold lowV
  split
  · rename_i v' e
    have hd : ∀ n k, (match Nat.blt n h.nxt || Nat.ble (gnm 0) n with | true => some n | false => none) = some k → (fun m => ρ0 m) k = ρ n := fun n k hk => by
      split at hk
      · rename_i hb
        cases hk
        have hb : n < h.nxt ∨ gnm 0 ≤ n := by
          simp only [Bool.or_eq_true, Nat.ble_eq, Nat.blt_eq] at hb; exact hb
        show ρ0 n = ρ n
        cases e0 : ρ0 n with
        | some l => exact (s1.le n l e0).symm
        | none =>
          cases e1 : ρ n with
          | none => rfl
          | some l => have := s1.new n l e0 e1; omega
      · cases hk
    exact (renV_rel hd e hx).mono s2.le
  · exact .inl rfl

section
variable {E : Env} (hE : EnvOk E) {F : Fam} {s0 : St}
include hE
/-- A call whose body makes of the family's state x the state yb. -/
theorem fex_call {id : Nat} {A B : List Oper} {o : Oper} {x yb : FSt} {e : Ex} {f : FuncId} {fn : Func} {c : Code} {args t1 t2 l : List AV}
    (hA : pureOps A x.tmps = some t1) (hg : o.guard = none) (hc : callee E.P t1 o.op = some (some (f, args))) (hf : E.P.funcs[f]? = some fn) (hb : fn.body = some c)
    (he : e = .norm ∨ e = .ret) (body : FEx E.P F s0 c ⟨args ++ List.replicate (fn.ntmps - args.length) (.tup []), x.pre, x.n, x.M, x.wr⟩ e yb)
    (hres : resultsA E.P yb.tmps fn.results.toList ⟨[], 0, 0, [], [], [], false⟩ = some (l, ⟨[], 0, 0, [], [], [], false⟩))
    (hB : pureOps B (putT (t1.map (lowV s0.hp.nxt)) o.dst (oneOrAll l)) = some t2) :
    FEx E.P F s0 (.region id (A ++ o :: B).toArray false) x .norm ⟨t2, yb.pre, yb.n, yb.M, yb.wr⟩ := by
  intro ρ0 w0 ρ a w Q f0 G g hd post
  refine wp_region_list ?_
  have Gρ : GOk ρ := G.mono g.st.le
  show wpList E.P _ Q (A ++ o :: B) a w
  refine pureOps_ok Gρ A _ _ a hA g.rel hd (fun a1 hr1 hd1 => ?_)
  obtain ⟨xs, hxs, hrun⟩ := callee_ok hE.good Gρ (w := w) hc hr1
  refine wpList_plain hg (fun K hK => ?_)
  unfold Oper.wp
  rw [hrun, Oper.upon_enter]
  refine calls_of_wp hf hb ?_
  have hlen := denL_length _ _ hxs
  have hrel : RelL ρ (args ++ List.replicate (fn.ntmps - args.length) (.tup [])) (xs.toArray ++ Array.replicate (fn.ntmps - xs.toArray.size) undef).toList := by
    have h1 : (xs.toArray ++ Array.replicate (fn.ntmps - xs.toArray.size) undef).toList = xs ++ List.replicate (fn.ntmps - args.length) undef := by simp [hlen]
    rw [h1]
    refine relL_append (denL.rel hxs) ⟨by simp, fun k v hk => ?_⟩
    rw [List.getElem?_replicate] at hk ⊢
    split at hk
    · rename_i hlt; cases hk; rw [if_pos hlt]; exact ⟨undef, rfl, undef_rel ρ⟩
    · cases hk
  refine body ρ0 w0 ρ _ w _ f0 G ⟨hrel, g.st, g.fresh, g.wr0⟩ rfl (fun ρ' a' w' g' hd' => ?_)
  obtain ⟨_, hres'⟩ := results_ok (P := E.P) (ρ := ρ') (w := w') g'.rel fn.results.toList _ _ l hres
  obtain ⟨ys, hy1, hy2⟩ := hres' (fun p hp => by cases hp) ⟨fun _ _ q => by simp [get] at q, fun _ _ _ _ _ _ q => by simp [get] at q⟩
  have hrun' := results_run hy2
  have fin : K (a1.put o.dst (oneOrAllV ys)) w' := by
    refine hK _ _ ?_
    have hrm : RelL ρ' (t1.map (lowV s0.hp.nxt)) a1.tmps.toList := ⟨by rw [List.length_map]; exact hr1.1, fun k v hk => by
      rw [List.getElem?_map] at hk
      cases e1 : t1[k]? with
      | none => rw [e1] at hk; cases hk
      | some u =>
        rw [e1] at hk
        cases hk
        obtain ⟨z, hz1, hz2⟩ := hr1.2 k u e1
        exact ⟨z, hz1, lowV_rel g.st g'.st G hz2⟩⟩
    have := pureOps_ok (P := E.P) (ops := (A ++ o :: B).toArray) (Q := Q) (w := w') (R := []) (G.mono g'.st.le) B _ _ (a1.put o.dst (oneOrAllV ys)) hB (relL_put o.dst hrm (oneOrAll_den hy1)) (by rw [put_defers]; exact hd1) (fun a2 hr2 hd2 => post ρ' a2 w' ⟨hr2, g'.st, g'.fresh, g'.wr0⟩ hd2)
    rwa [List.append_nil] at this
  rcases he with rfl | rfl
  · exact ⟨hd', _, hrun', fin⟩
  · exact ⟨hd', _, hrun', fin⟩
end
end Go.Ev
