/-
  A loop over a family whose end is found on the way.
-/
import Derived.Test.YtljeiencnpnbkaaDoorEvFx
import Derived.Test.YtljeiencnpnbkaaDoorEvRun
set_option linter.unusedSimpArgs false
set_option linter.unusedVariables false
namespace Go.Ev
/-- A loop whose rounds' states are known one by one: there is an end. -/
theorem fex_loopE {P : Program} {F : Fam} {s0 : St} {e : Ex} {c : Code} {X : Type} (T : X → FSt) (μ : X → Nat) (ok : X → Prop) (R : FSt → Prop) (he : e ≠ .norm)
    (round : ∀ v, ok v → (∃ v', ok v' ∧ μ v' < μ v ∧ FEx P F s0 c (T v) .norm (T v')) ∨ (∃ y, R y ∧ FEx P F s0 c (T v) e y)) (v : X) (hv : ok v) : ∃ y, R y ∧ FEx P F s0 (.loop c) (T v) e y := by
  have key : ∀ n v, μ v < n → ok v → ∃ y, R y ∧ ∀ ρ0 w0 Q, Fresh ρ0 s0.hp.nxt (gnm 0) → GOk ρ0 → (∀ ρ' a' w', GInv P F ρ0 s0 w0 y ρ' a'.tmps.toList w' → a'.defers = [] → Q (exOf e) a' w') →
      ∀ ρ a w, GInv P F ρ0 s0 w0 (T v) ρ a.tmps.toList w → a.defers = [] → Code.rounds P c Q n a w := by
    intro n
    induction n with
    | zero => intro v h; omega
    | succ n IH =>
      intro v hv' hok
      rcases round v hok with ⟨u, hu, hμ, hr⟩ | ⟨y, hR, hr⟩
      · obtain ⟨y, hR, hy⟩ := IH u (by omega) hu
        refine ⟨y, hR, fun ρ0 w0 Q f0 G post ρ a w g hd => ?_⟩
        rw [rounds_succ]
        exact hr ρ0 w0 ρ a w _ f0 G g hd (fun ρ2 a2 w2 g2 hd2 => exOf_then (e := .norm) (fun _ => hy ρ0 w0 Q f0 G post ρ2 a2 w2 g2 hd2) (fun h => (h rfl).elim))
      · refine ⟨y, hR, fun ρ0 w0 Q f0 G post ρ a w g hd => ?_⟩
        rw [rounds_succ]
        exact hr ρ0 w0 ρ a w _ f0 G g hd (fun ρ2 a2 w2 g2 hd2 => exOf_then (fun h => (he h).elim) (fun _ => post ρ2 a2 w2 g2 hd2))
  obtain ⟨y, hR, hy⟩ := key (μ v + 1) v (by omega) hv
  exact ⟨y, hR, fun ρ0 w0 ρ a w Q f0 G g hd post => wp_loop_rounds (μ v + 1) (hy ρ0 w0 Q f0 G post ρ a w g hd)⟩
/-- Code, by its evaluation from a state to a state. -/
theorem code_of {E : Env} (hE : EnvOk E) {fuel : Nat} {c : Code} {s1 s2 : St} {m : List (Nat × Src)} {hints : List Hint} {e : Ex} {ob : List Prop}
    (h : roundB E fuel c s1.hp m s1 hints s2 = some (e, ob)) (ho : ∀ p ∈ ob, p) (hhi : s1.hp.hi = gnm 0) (hnx : s1.hp.nxt ≤ gnm 0) : CodeHolds E.P c s1 e s2 := by
  intro ρ a w Q pre post
  obtain ⟨s', hex, hobs, ob', hc, ho'⟩ := roundB_spec h ho
  have o := (all_ok hE fuel).ex _ _ _ _ hex
  refine o.wp hobs ρ a w Q ⟨pre.rel, pre.defers, pre.rep, pre.fresh, pre.glob⟩ (fun ρ2 a2 w2 hr2 hd2 hs2 => ?_)
  have hn1 : s'.hp.nxt ≤ s1.hp.hi := castSt_nxt hc
  have f0 : Fresh ρ s1.hp.nxt (gnm 0) := fun n h1 h2 => pre.fresh n h1 (by rw [hhi]; exact h2)
  have st : StepB E.P (gnm 0) ρ s1.hp w ρ2 s'.hp w2 := ⟨hs2.le, fun n l h1 h2 => (let q := hs2.new n l h1 h2; ⟨q.1, Nat.lt_of_lt_of_le q.2 (by rw [← hhi]; exact hn1)⟩), hs2.rep, hs2.fr, hs2.own⟩
  obtain ⟨ρ3, q1, q2, q3, q4, q5, q6, q7, _⟩ := castSt_okB st (by rw [hhi]; exact Nat.le_refl _) f0 hc ho' hr2
  refine post ρ3 a2 w2 q1 hd2 ⟨q2.le, fun n l h1 h2 => ⟨(q2.new n l h1 h2).1, ?_⟩, q2.rep, q2.fr, q2.own⟩
  rcases q3 n l h1 h2 with h | h
  · exact h
  · have := (q2.new n l h1 h2).2
    rw [hhi] at h; omega
theorem code_seq {P : Program} {a b : Code} {s s1 s2 : St} {e : Ex} (ha : CodeHolds P a s .norm s1) (hb : CodeHolds P b s1 e s2) (m1 : Mono s.hp s1.hp) (m2 : Mono s1.hp s2.hp) : CodeHolds P (.seq a b) s e s2 := by
  intro ρ ac w Q pre post
  refine wp_seq (ha ρ ac w _ pre (fun ρ1 a1 w1 hr hd hs => ?_))
  refine exOf_then (e := .norm) (fun _ => ?_) (fun h => (h rfl).elim)
  exact hb ρ1 a1 w1 Q (pre.next hs m1 hr hd) (fun ρ2 a2 w2 hr2 hd2 hs2 => post ρ2 a2 w2 hr2 hd2 (hs.trans hs2 m1 m2))
/-- A piece that gives the family up, and code behind it. -/
theorem fout_then {P : Program} {F : Fam} {s0 s1 s2 : St} {x : FSt} {a b : Code} {e : Ex} (ha : FOut P F s0 a x .norm s1) (hb : CodeHolds P b s1 e s2) (hhi : s0.hp.hi = gnm 0) (m1 : Mono s0.hp s1.hp) (m2 : Mono s1.hp s2.hp) : FOut P F s0 (.seq a b) x e s2 := by
  intro ρ0 w0 ρ ac w Q f0 G g hd post
  refine wp_seq (ha ρ0 w0 ρ ac w _ f0 G g hd (fun ρ1 a1 w1 hr1 hd1 hs1 => ?_))
  refine exOf_then (e := .norm) (fun _ => ?_) (fun h => (h rfl).elim)
  refine hb ρ1 a1 w1 Q ⟨hr1, hd1, hs1.rep, fun n h1 h2 => ?_, G.mono hs1.le⟩ (fun ρ2 a2 w2 hr2 hd2 hs2 => post ρ2 a2 w2 hr2 hd2 (hs1.trans hs2 m1 m2))
  cases hn : ρ1 n with
  | none => rfl
  | some l =>
    have h3 : ρ0 n = none := f0 n (Nat.le_trans m1.nxt h1) (by rw [m1.hi, hhi] at h2; exact h2)
    have := (hs1.new n l h3 hn).2
    omega
theorem code_block {P : Program} {id : Nat} {c : Code} {s s' : St} (h : LoopHolds P c s (.exit id) s') : CodeHolds P (.block id (.loop c)) s .norm s' := by
  intro ρ a w Q pre post
  refine wp_block (h ρ a w _ pre (fun ρ' a' w' hr hd hs => ?_))
  have := post ρ' a' w' hr hd hs
  simpa [Exit.inBlock, exOf] using this
section
variable {E : Env} (hE : EnvOk E) {F : Fam} (hF : FamOk F) {s0 : St} (hS : SOk s0)
include hE hF hS
/-- A family's state seen otherwise, one member; then code. -/
theorem fout_pre {l : List Code} {x y : FSt} (j : Nat) (wth wth' : Bool) {mb mb' : Mb} {fuel : Nat} {m : List (Nat × Src)} {hints : List Hint} {ob : List Prop}
    (h : roundB E fuel (seqs l .skip) (h0F F s0) m (locSt F x wth mb j []) hints (locSt F y wth' mb' j []) = some (.norm, ob)) (ho : ∀ p ∈ ob, p)
    (fx : FGood F x) (fy : FGood F y) (hj : wth = true → j < x.n) (hm : x.M j = mb) (hm' : y.M j = mb') (hw : (wth' = true ∧ j < y.n) ∨ (wth' = false ∧ y.n ≤ j))
    (same : ∀ i, i < y.n → i ≠ j → i < x.n ∧ y.M i = x.M i) {c : Code} {e : Ex} {s1 : St} (hc : FOut E.P F s0 c y e s1) : FOut E.P F s0 (seqs l c) x e s1 := by
  intro ρ0 w0 ρ a w Q f0 G g hd post
  subst hm
  subst hm'
  have hf1 : F.b0 < gnm 0 := by have := hF.hi; omega
  obtain ⟨s', hex, hobs, ob', hcs, ho'⟩ := roundB_spec h ho
  obtain ⟨l1, l2, l3, l4⟩ := toLocS hF hS f0 fx.ok fx.n g (G.mono g.st.le) hj hints
  obtain ⟨om, o⟩ := seqs_ok hE l fuel _ _ hex
  refine o hobs _ a w c Q ⟨l1, hd, l2.rep, l3, l4⟩ (fun ρ2 a2 w2 hr2 hd2 hs2 => ?_)
  have hn1 : s'.hp.nxt ≤ F.b0 := castSt_nxt hcs
  have hn2 : s'.hp.nxt ≤ gnm 0 := by omega
  have all := l2.trans hs2 om.wr (by show s0.hp.nxt ≤ 1000; have := hS.nxt; omega) hn2
  have all' : StepB E.P (gnm 0) ρ0 (h0F F s0) w0 ρ2 s'.hp w2 := ⟨all.le, all.new, all.rep, all.fr, all.own⟩
  obtain ⟨ρ3, q1, q2, q3, q4, q5, q6, q7, q8, q9, q10⟩ := castSt_okB all' (by show F.b0 ≤ gnm 0; omega) f0 hcs ho' hr2
  have q2' : StepB E.P (gnm 0) ρ0 s0.hp w0 ρ3 (locSt F y wth' (y.M j) j []).hp w2 := ⟨q2.le, q2.new, q2.rep, q2.fr, q2.own⟩
  exact hc ρ0 w0 _ a2 w2 Q f0 G (fromLocS hF hS f0 fx.ok fx.n g hj l2.rep hs2 hn1 om.wr fy.ok fy.n hw same q1 q2' q4 q7 q8 q9 q10) hd2 post
end
theorem valV_nils {c : CM} {n wd : Nat} (hf : c.fresh n = true) (hm : get c.m n = some (.nil wd)) : valV c .nils (.ss wd n 0 0 none) := ⟨rfl, fun ρ x hx => by
  simp only [den] at hx ⊢
  cases hx
  have : c.ren ρ n = some (nilLoc wd) := by unfold CM.ren; rw [hf]; simp only [hm]
  rw [this]
  simp [Loc.slice, nilLoc, capOr]⟩
end Go.Ev
