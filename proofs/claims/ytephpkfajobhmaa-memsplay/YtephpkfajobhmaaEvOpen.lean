/-
  A closed call that leaves obligations; the words of a memory as a list.
-/
import Derived.Test.YtephpkfajobhmaaEvWords
import Derived.Test.YtephpkfajobhmaaEvLoop
set_option linter.unusedSimpArgs false
set_option linter.unusedVariables false
namespace Go.Ev
theorem closed_okG {E : Env} (hE : EnvOk E) {fuel f nxt : Nat} {v : AV} {h1 : Hp} (hc : callF E fuel f [] ⟨[], nxt, gnm 0, [], [], [], true⟩ = some (v, h1)) (hob : ∀ p ∈ h1.ob, p) (hv : scalar v = true) (h : Hp) :
    CaOk E.P f [] h v h := by
  refine ⟨Mono.refl h, fun _ ρ w hr hf hg xs hx => ?_⟩
  simp [denL] at hx
  subst hx
  let ρ0 : Ren := fun n => if gnm 0 ≤ n then ρ n else none
  have g0 : GOk ρ0 := fun g => by
    obtain ⟨l, hl, r⟩ := hg g
    have hg0 : gnm 0 ≤ gnm g := by unfold gnm; omega
    exact ⟨l, by simp [ρ0, hg0, hl], r⟩
  have := ((all_ok hE fuel).ca f [] _ v h1 hc).wp hob ρ0 w ⟨fun n o e => by simp [get] at e, fun n m o o' l l' e => by simp [get] at e⟩
    (fun n h1 h2 => by simp at h1 h2; simp [ρ0]; omega) g0 [] rfl
  refine this.mono fun e w' ⟨x, ρ', he, hx, hs⟩ => ⟨x, ρ, he, scalar_rel hv hx, ?_⟩
  have same : ∀ b, b < w.heap.size → w'.heap[b]? = w.heap[b]? := fun b hb => hs.fr.same b hb (fun ⟨m, hm, o, l, e, _⟩ => by simp [get] at e)
  refine ⟨Le.refl ρ, fun n l a b => (by rw [a] at b; cases b), ⟨fun n o e => ?_, hr.2⟩, ⟨hs.fr.size, fun b hb _ => same b hb, hs.fr.tape, hs.fr.os, hs.fr.output⟩, fun n o l a b c _ => ⟨n, o, l, a, rfl, b, c, rfl, .inl rfl⟩⟩
  obtain ⟨l, hl, ho⟩ := hr.1 n o e
  exact ⟨l, hl, ho.keep (Le.refl ρ) (fun hc => same _ (ho.lt hc))⟩
/-- A closed call as a contract; what it leaves is shown. -/
theorem lives_of_runG {E : Env} (hE : EnvOk E) {fuel f : Nat} {v : AV} {obs : List Prop} (hv : v = .bool true ∨ v = .symb true) (h : (callF E fuel f [] ⟨[], 0, gnm 0, [], [], [], true⟩).map (fun x => (x.1, x.2.ob)) = some (v, obs)) (hob : ∀ p ∈ obs, p) : LocOk E.P f [] [] ⟨0, .bool true, [], 0, [], []⟩ := by
  intro ρ w _ hr hf hg xs hx
  cases hc : callF E fuel f [] ⟨[], 0, gnm 0, [], [], [], true⟩ with
  | none => rw [hc] at h; cases h
  | some y =>
    rw [hc] at h
    simp only [Option.map_some, Option.some.injEq, Prod.mk.injEq] at h
    obtain ⟨u, h1⟩ := y
    obtain ⟨rfl, h2⟩ := h
    have hsc : scalar u = true := by rcases hv with e | e <;> (have e : u = _ := e; rw [e]; rfl)
    refine ((closed_okG hE hc (by rw [h2]; exact hob) hsc ⟨[], 1, gnm 0, [], [], [], false⟩).wp (fun p hp => by cases hp) ρ w hr hf hg xs hx).mono fun e w' ⟨x, ρ', he, r, hs⟩ => ⟨x, ρ', he, ?_, hs⟩
    rcases hv with e | e
    · have e : u = _ := e
      rw [e] at r; exact r
    · have e : u = _ := e
      rw [e] at r
      exact r.imp (fun h => by cases h) (fun e => by simpa [den] using e)
/-- No words, one word. -/
theorem wlF_nil {f : List Int → Option Int} (h : ∀ k a b, mget f (key k a b) = 0) : wlF f = [] :=
  wlF_eq ⟨List.Pairwise.nil, fun k v => ⟨(fun h => by cases h), fun ⟨e, hz⟩ => by rw [h] at e; exact (hz e.symm).elim⟩⟩
theorem wlF_one {f : List Int → Option Int} {k a b v : Int} (h : ∀ k' a' b', mget f (key k' a' b') = if k' = k ∧ a' = a ∧ b' = b then v else 0) (hv : v ≠ 0) : wlF f = [((k, a, b), v)] :=
  wlF_eq ⟨List.pairwise_cons.2 ⟨(fun _ h => by cases h), List.Pairwise.nil⟩, fun x u => by
    obtain ⟨x1, x2, x3⟩ := x
    rw [h]
    simp only [List.mem_singleton, Prod.mk.injEq]
    constructor
    · rintro ⟨⟨e1, e2, e3⟩, e4⟩; exact ⟨by rw [if_pos ⟨e1, e2, e3⟩, e4], by rw [e4]; exact hv⟩
    · rintro ⟨e, hu⟩
      split at e
      · rename_i hh; exact ⟨hh, e.symm⟩
      · exact (hu e.symm).elim⟩
theorem mget_none (k : List Int) : mget (fun _ => none) k = 0 := rfl
end Go.Ev
