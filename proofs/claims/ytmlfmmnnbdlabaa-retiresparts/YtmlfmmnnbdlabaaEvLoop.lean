/-
  A loop by an invariant: a family of templates.
-/
import Derived.Test.YtmlfmmnnbdlabaaEvCast
set_option linter.unusedSimpArgs false
set_option linter.unusedVariables false
namespace Go.Ev

/-- One round of a loop from a template, as it is shown by an evaluation. -/
def RoundOk (E : Env) (c : Code) (s0 : St) (e0 : Ex) (s1 : St) {I : Type} (T : I → St) (μ : I → Nat) (ok : I → Prop) (i : I) : Prop :=
  ∃ fuel hints e s', exec E fuel c ⟨(T i).tmps, ⟨(T i).hp.heap, (T i).hp.nxt, (T i).hp.hi, hints, [], (T i).hp.wr, false⟩⟩ = some (e, s') ∧ Obs s'.hp ∧
    ((e = .norm ∧ ∃ j m ob, ok j ∧ μ j < μ i ∧ castSt s0.hp m s' (T j) = some ob ∧ ∀ p ∈ ob, p) ∨ (e = e0 ∧ e ≠ .norm ∧ ∃ m ob, castSt s0.hp m s' s1 = some ob ∧ ∀ p ∈ ob, p))

theorem Step.of_eq {P : Program} {ρ ρ' : Ren} {h1 h2 k1 k2 : Hp} {w w' : World} (s : Step P ρ h1 w ρ' k1 w') (e1 : h1.heap = h2.heap) (e2 : h1.nxt = h2.nxt) (e3 : k1.heap = k2.heap) (e4 : k1.nxt = k2.nxt) (e5 : k1.wr = k2.wr) : Step P ρ h2 w ρ' k2 w' := by
  obtain ⟨a, b, c, d, e⟩ := s
  rw [e2, e4] at b
  rw [e3] at c
  rw [e1, e5] at d
  rw [e1, e3, e5] at e
  exact ⟨a, b, c, d, e⟩

theorem loop_rule {E : Env} (hE : EnvOk E) {c : Code} {s0 : St} {e0 : Ex} {s1 : St} {I : Type} (T : I → St) (μ : I → Nat) (ok : I → Prop)
    (init : ∃ i m ob, ok i ∧ castSt s0.hp m s0 (T i) = some ob ∧ ∀ p ∈ ob, p) (round : ∀ i, ok i → RoundOk E c s0 e0 s1 T μ ok i) : LoopHolds E.P c s0 e0 s1 := by
  intro ρ a w Q pre post
  have key : ∀ n i, μ i < n → ok i → ∀ ρ' a' w', RelL ρ' (T i).tmps a'.tmps.toList → a'.defers = [] → Step E.P ρ s0.hp w ρ' (T i).hp w' → Fresh ρ' (T i).hp.nxt (T i).hp.hi → s0.hp.nxt ≤ (T i).hp.nxt →
      (T i).hp.hi = s0.hp.hi → (∀ n ∈ s0.hp.wr, n ∈ (T i).hp.wr) → Code.rounds E.P c Q n a' w' := by
    intro n
    induction n with
    | zero => intro i h; omega
    | succ n IH =>
      intro i hi hok ρ' a' w' hrel hdef hst hfr hnx hhi hwr
      obtain ⟨fuel, hints, e, s', hex, hobs, hend⟩ := round i hok
      have o := (all_ok hE fuel).ex _ _ _ _ hex
      rw [rounds_succ]
      refine o.wp hobs ρ' a' w' _ ⟨hrel, hdef, hst.rep, hfr, pre.glob.mono hst.le⟩ (fun ρ2 a2 w2 hr2 hd2 hs2 => ?_)
      have m1 : Mono (⟨s0.hp.heap, s0.hp.nxt, s0.hp.hi, [], [], s0.hp.wr, false⟩ : Hp) ⟨(T i).hp.heap, (T i).hp.nxt, (T i).hp.hi, hints, [], (T i).hp.wr, false⟩ := ⟨fun p hp => hp, hnx, hhi, hwr⟩
      have all : Step E.P ρ s0.hp w ρ2 s'.hp w2 :=
        ((hst.of_eq (h2 := ⟨s0.hp.heap, s0.hp.nxt, s0.hp.hi, [], [], s0.hp.wr, false⟩) (k2 := ⟨(T i).hp.heap, (T i).hp.nxt, (T i).hp.hi, hints, [], (T i).hp.wr, false⟩) rfl rfl rfl rfl rfl).trans hs2 m1 o.mono).of_eq rfl rfl rfl rfl rfl
      rcases hend with ⟨rfl, j, m, ob, hj, hμ, hc, ho⟩ | ⟨rfl, hne, m, ob, hc, ho⟩
      · obtain ⟨ρ3, q1, q2, q3, q4, q5, q6⟩ := castSt_ok all pre.fresh pre.rep hc ho hr2
        exact exOf_then (fun _ => IH j (by omega) hj ρ3 a2 w2 q1 hd2 q2 q3 q4 q5 q6) (fun h => (h rfl).elim)
      · obtain ⟨ρ3, q1, q2, q3, q4, q5, q6⟩ := castSt_ok all pre.fresh pre.rep hc ho hr2
        exact exOf_then (fun h => (hne h).elim) (fun _ => post ρ3 a2 w2 q1 hd2 q2)
  obtain ⟨i, m, ob, hok, hc, ho⟩ := init
  obtain ⟨ρ3, q1, q2, q3, q4, q5, q6⟩ := castSt_ok (Step.refl pre.rep rfl) pre.fresh pre.rep hc ho pre.rel
  exact wp_loop_rounds (μ i + 1) (key (μ i + 1) i (by omega) hok ρ3 a w q1 pre.defers q2 q3 q4 q5 q6)

end Go.Ev
