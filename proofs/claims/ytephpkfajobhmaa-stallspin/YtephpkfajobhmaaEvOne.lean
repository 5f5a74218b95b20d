/-
  EvOne and what follows it.
-/
import Derived.Test.YtephpkfajobhmaaEvDropK
import Derived.Test.YtephpkfajobhmaaEvUse
import Derived.Below
/-
  A load of a word that is known to be 1, at a closed key.
-/
set_option linter.unusedSimpArgs false
set_option linter.unusedVariables false
namespace Go.Ev
def oneR (R : LR) : Option LR := match R.v with
  | .sym k n => some ⟨R.k, .int k 1, R.heap, R.n, R.wr, (n = 1) :: R.ob⟩
  | _ => none
/-- Where 'want' says so the answer is 1: an obligation. -/
def oneK (want : Int → Int → Int → Bool) (s : LSpec) : LSpec := fun la lh => match la with
  | [a, .agg [.int k1 n1, .int k2 n2, .int k3 n3]] => match want n1 n2 n3, s (nrmL [a, .agg [.int k1 n1, .int k2 n2, .int k3 n3]]) (nrmH lh) with
    | true, some R => oneR R
    | _, _ => none
  | _ => none
theorem oneK_ok {P : Program} {f : FuncId} {want : Int → Int → Int → Bool} {s : LSpec} (hs : SpecOk P f s) : SpecOk P f (oneK want s) := by
  intro la lh R h
  unfold oneK at h
  split at h
  case h_2 => cases h
  rename_i a k1 n1 k2 n2 k3 n3
  split at h
  case h_2 => cases h
  rename_i R0 hw hR
  unfold oneR at h
  split at h
  case h_2 => cases h
  rename_i k n hv
  cases h
  have := loc_nrm (hs _ _ _ hR)
  intro ρ w hob hr hf hg xs hx
  have hn : n = 1 := hob _ (List.mem_cons_self ..)
  refine (this ρ w (fun p hp => hob p (List.mem_cons_of_mem _ hp)) hr hf hg xs hx).mono fun e w' ⟨x, ρ', he, hx, hs⟩ => ⟨x, ρ', he, ?_, hs⟩
  have hx2 : relS ρ' R0.v x := hx
  rw [hv, hn] at hx2
  exact hx2.imp (fun h => by cases h) (fun e => by simpa [den] using e)
end Go.Ev

/-
  A contract out of a run whose tests are all decided by evaluation.
-/
set_option linter.unusedSimpArgs false
set_option linter.unusedVariables false
namespace Go.Ev
theorem loc_of_runA {E : Env} (hE : EnvOk E) {f : FuncId} {la : List AV} {lh : List (Nat × AO)} {R : LR}
    (H : (∀ p ∈ R.ob, p) → ∃ fuel hints v1 h1, callF E fuel f la ⟨lh, R.k + 1, gnm 0, hints, [], [], true⟩ = some (v1, h1) ∧ Obs h1 ∧ ∃ m ob, castSt (R.from lh) m ⟨[v1], h1⟩ ⟨[R.v], R.to⟩ = some ob ∧ ∀ p ∈ ob, p) : LocOk E.P f la lh R := by
  intro ρ w hob hr hf hg xs hx
  obtain ⟨fuel, hints, v1, h1, hc, ho, m, ob, hcast, hob2⟩ := H hob
  refine (((all_ok hE fuel).ca f la _ v1 h1 hc).wp ho ρ w hr hf hg xs hx).mono fun e w' ⟨x, ρ', he, hx, st⟩ => ?_
  have st' : Step E.P ρ (R.from lh) w ρ' h1 w' := st.of_eq rfl rfl rfl rfl rfl
  obtain ⟨ρ2, q1, q2, _⟩ := castSt_ok (xs := [x]) (s := ⟨[v1], h1⟩) st' hf hr hcast hob2 ⟨rfl, fun k v hk => by
    cases k with
    | zero => simp at hk; subst hk; exact ⟨x, rfl, hx⟩
    | succ k => simp at hk⟩
  refine ⟨x, ρ2, he, ?_, q2.of_eq rfl rfl rfl rfl rfl⟩
  obtain ⟨y, hy, hr⟩ := q1.2 0 R.v rfl
  simp at hy; subst hy
  exact hr
def callBA (E : Env) (fuel : Nat) (f : FuncId) (la : List AV) (lh : List (Nat × AO)) (R : LR) (m : List (Nat × Src)) (hints : List Hint) : Option (List Prop) :=
  match callF E fuel f la ⟨lh, R.k + 1, gnm 0, hints, [], [], true⟩ with
  | some (v1, h1) => match castSt (R.from lh) m ⟨[v1], h1⟩ ⟨[R.v], R.to⟩ with
    | some ob => some (ob ++ h1.ob)
    | none => none
  | none => none
theorem loc_of_callA {E : Env} (hE : EnvOk E) {f : FuncId} {la : List AV} {lh : List (Nat × AO)} {R : LR}
    (H : (∀ p ∈ R.ob, p) → ∃ fuel hints m ob, callBA E fuel f la lh R m hints = some ob ∧ ∀ p ∈ ob, p) : LocOk E.P f la lh R := by
  refine loc_of_runA hE (fun hp => ?_)
  obtain ⟨fuel, hints, m, ob, h, ho⟩ := H hp
  unfold callBA at h
  split at h
  · rename_i v1 h1 hc
    split at h
    · rename_i ob' hcast
      cases h
      obtain ⟨a, b⟩ := all_append ho
      exact ⟨fuel, hints, v1, h1, hc, b, m, ob', hcast, a⟩
    · cases h
  · cases h
end Go.Ev

/-
  Contracts that were walked: what a call laid behind the heap, as a new name.
-/
set_option linter.unusedSimpArgs false
set_option linter.unusedVariables false
namespace Go.Ev

theorem HeapRep.new' {P : Program} {ρ : Ren} {heap : List (Nat × AO)} {w w' : World} (h : HeapRep P ρ heap w) {n : Nat} {o : AO} {l : Loc} (hf : ρ n = none) (hb : l.cap ≠ 0 → w.heap.size ≤ l.blk)
    (hs : ∀ k, k < w.heap.size → w'.heap[k]? = w.heap[k]?) (ho : ObjRep P (ρ.set n l) w' l o) : HeapRep P (ρ.set n l) ((n, o) :: heap) w' := by
  have hle := Ren.le_set (l := l) hf
  have old : ∀ m x, m ≠ n → get ((n, o) :: heap) m = some x → get heap m = some x := by
    intro m x hm hx
    have : Nat.beq n m = false := by rw [← Bool.not_eq_true, Nat.beq_eq]; exact fun e => hm e.symm
    simpa [get, this] using hx
  refine ⟨fun m x hm => ?_, fun m k x y l1 l2 hm hk hne hro h1 h2 c1 c2 => ?_⟩
  · by_cases hmn : m = n
    · subst hmn; simp [get] at hm; subst hm; exact ⟨l, Ren.set_same ρ m l, ho⟩
    · obtain ⟨l', hl', hx⟩ := h.1 m x (old m x hmn hm)
      exact ⟨l', hle _ _ hl', hx.keep hle (fun c => hs _ (hx.lt c))⟩
  · by_cases hmn : m = n
    · subst hmn
      rw [Ren.set_same] at h1; cases h1
      obtain ⟨l', hl', hx⟩ := h.1 k y (old k y (Ne.symm hne) hk)
      rw [hle _ _ hl'] at h2; cases h2
      have := hx.lt c2
      have := hb c1
      omega
    · obtain ⟨l1', hl1, hx1⟩ := h.1 m x (old m x hmn hm)
      rw [hle _ _ hl1] at h1; cases h1
      by_cases hkn : k = n
      · subst hkn
        rw [Ren.set_same] at h2; cases h2
        have := hx1.lt c1
        have := hb c2
        omega
      · obtain ⟨l2', hl2, hx2⟩ := h.1 k y (old k y hkn hk)
        rw [hle _ _ hl2] at h2; cases h2
        exact h.2 m k x y _ _ (old m x hmn hm) (old k y hkn hk) hne hro hl1 hl2 c1 c2

theorem step_below {P : Program} {ρ : Ren} {lh : List (Nat × AO)} {k : Nat} {w w' : World} (hr : HeapRep P ρ lh w) (hf : Fresh ρ (k + 1) (gnm 0)) (hk : k + 1 < gnm 0) (hB : Go.RowKit.Below w.heap.size w w') (l : Loc) (o : AO)
    (hb : l.cap ≠ 0 → w.heap.size ≤ l.blk) (ho : ObjRep P (ρ.set (k + 1) l) w' l o) :
    Step P ρ ⟨lh, k + 1, gnm 0, [], [], [], false⟩ w (ρ.set (k + 1) l) ⟨(k + 1, o) :: lh, k + 1 + 1, gnm 0, [], [], [], false⟩ w' := by
  have hn : ρ (k + 1) = none := hf _ (Nat.le_refl _) hk
  refine ⟨Ren.le_set hn, ?_, HeapRep.new' hr hn hb (fun k hk => hB.block k hk) ho, ⟨hB.size, fun b hb _ => hB.block b hb, hB.tape, hB.os, hB.output⟩, ?_⟩
  · intro m l' e1 e2
    by_cases hm : m = k + 1
    · subst hm; exact ⟨Nat.le_refl _, by simp⟩
    · simp [Ren.set, hm, e1] at e2
  · intro m o' l' h1 h2 h3 h4
    by_cases hm : m = k + 1
    · subst hm; rw [Ren.set_same] at h2; cases h2
      have := hb h3
      omega
    · have h1' : get lh m = some o' := by
        have : Nat.beq (k + 1) m = false := by rw [← Bool.not_eq_true, Nat.beq_eq]; exact fun e => hm e.symm
        simpa [get, this] using h1
      obtain ⟨l0, hl0⟩ := hr.loc h1'
      rw [Ren.le_set hn m l0 hl0] at h2; cases h2
      exact ⟨m, o', _, h1', rfl, hl0, h3, rfl, .inl rfl⟩

/-- A cell of a symbolic array, read in the world. -/
theorem arr_cell {P : Program} {ρ : Ren} {w : World} {l : Loc} {wd : Nat} {sh : List CK} {ro : Bool} {len : Nat} {f : Nat → Nat → AV} (h : ObjRep P ρ w l (.arr wd sh ro len f)) {i j : Nat} {k : IntKind} (hi : i < len) (hj : sh[j]? = some (.int k)) :
    w.cell? ⟨l.blk, l.base + i * wd + j, none⟩ = some (.int k (avInt (f i j))) := by
  obtain ⟨h1, h2, h3, h4, h5⟩ := h
  obtain ⟨c, t, fr, hb, hf, hc2, hv⟩ := h5 (by omega)
  obtain ⟨hk, x, hx, hd⟩ := hv i hi j _ hj
  obtain ⟨n, e | e⟩ := hk <;> rw [e] at hd ⊢ <;> simp [den] at hd <;> subst hd <;> simp [World.cell?, hb, hx, avInt]
end Go.Ev
