/-
  Contracts that were walked: what a call laid behind the heap, as a new name.
-/
import Derived.Test.YtephpkfajobhmaaEvUse
import Derived.Below
set_option linter.unusedSimpArgs false
set_option linter.unusedVariables false
namespace Go.Ev

theorem HeapRep.new' {P : Program} {ρ : Ren} {heap : List (Nat × AO)} {w w' : World} (h : HeapRep P ρ heap w) {n : Nat} {o : AO} {l : Loc} (hf : ρ n = none) (hb : l.cap ≠ 0 → w.heap.size ≤ l.blk)
    (hs : ∀ k, k < w.heap.size → w'.heap[k]? = w.heap[k]?) (ho : ObjRep P (ρ.set n l) w' l o) : HeapRep P (ρ.set n l) ((n, o) :: heap) w' := by
  have hle := Ren.le_set (l := l) hf
  have old : ∀ m x, m ≠ n → get ((n, o) :: heap) m = some x → get heap m = some x := by
    intro m x hm hx
    have : Nat.beq n m = false := by rw [← Bool.not_eq_true, Nat.beq_eq]; exact fun e => hm e.symm
    simpa [get, this] using hx
  refine ⟨fun m x hm => ?_, fun m k x y l1 l2 hm hk hne hro h1 h2 c1 c2 => ?_⟩
  · by_cases hmn : m = n
    · subst hmn; simp [get] at hm; subst hm; exact ⟨l, Ren.set_same ρ m l, ho⟩
    · obtain ⟨l', hl', hx⟩ := h.1 m x (old m x hmn hm)
      exact ⟨l', hle _ _ hl', hx.keep hle (fun c => hs _ (hx.lt c))⟩
  · by_cases hmn : m = n
    · subst hmn
      rw [Ren.set_same] at h1; cases h1
      obtain ⟨l', hl', hx⟩ := h.1 k y (old k y (Ne.symm hne) hk)
      rw [hle _ _ hl'] at h2; cases h2
      have := hx.lt c2
      have := hb c1
      omega
    · obtain ⟨l1', hl1, hx1⟩ := h.1 m x (old m x hmn hm)
      rw [hle _ _ hl1] at h1; cases h1
      by_cases hkn : k = n
      · subst hkn
        rw [Ren.set_same] at h2; cases h2
        have := hx1.lt c1
        have := hb c2
        omega
      · obtain ⟨l2', hl2, hx2⟩ := h.1 k y (old k y hkn hk)
        rw [hle _ _ hl2] at h2; cases h2
        exact h.2 m k x y _ _ (old m x hmn hm) (old k y hkn hk) hne hro hl1 hl2 c1 c2

theorem step_below {P : Program} {ρ : Ren} {lh : List (Nat × AO)} {k : Nat} {w w' : World} (hr : HeapRep P ρ lh w) (hf : Fresh ρ (k + 1) (gnm 0)) (hk : k + 1 < gnm 0) (hB : Go.RowKit.Below w.heap.size w w') (l : Loc) (o : AO)
    (hb : l.cap ≠ 0 → w.heap.size ≤ l.blk) (ho : ObjRep P (ρ.set (k + 1) l) w' l o) :
    Step P ρ ⟨lh, k + 1, gnm 0, [], [], [], false⟩ w (ρ.set (k + 1) l) ⟨(k + 1, o) :: lh, k + 1 + 1, gnm 0, [], [], [], false⟩ w' := by
  have hn : ρ (k + 1) = none := hf _ (Nat.le_refl _) hk
  refine ⟨Ren.le_set hn, ?_, HeapRep.new' hr hn hb (fun k hk => hB.block k hk) ho, ⟨hB.size, fun b hb _ => hB.block b hb, hB.tape, hB.os, hB.output⟩, ?_⟩
  · intro m l' e1 e2
    by_cases hm : m = k + 1
    · subst hm; exact ⟨Nat.le_refl _, by simp⟩
    · simp [Ren.set, hm, e1] at e2
  · intro m o' l' h1 h2 h3 h4
    by_cases hm : m = k + 1
    · subst hm; rw [Ren.set_same] at h2; cases h2
      have := hb h3
      omega
    · have h1' : get lh m = some o' := by
        have : Nat.beq (k + 1) m = false := by rw [← Bool.not_eq_true, Nat.beq_eq]; exact fun e => hm e.symm
        simpa [get, this] using h1
      obtain ⟨l0, hl0⟩ := hr.loc h1'
      rw [Ren.le_set hn m l0 hl0] at h2; cases h2
      exact ⟨m, o', _, h1', rfl, hl0, h3, rfl, .inl rfl⟩

/-- A cell of a symbolic array, read in the world. -/
theorem arr_cell {P : Program} {ρ : Ren} {w : World} {l : Loc} {wd : Nat} {sh : List CK} {ro : Bool} {len : Nat} {f : Nat → Nat → AV} (h : ObjRep P ρ w l (.arr wd sh ro len f)) {i j : Nat} {k : IntKind} (hi : i < len) (hj : sh[j]? = some (.int k)) :
    w.cell? ⟨l.blk, l.base + i * wd + j, none⟩ = some (.int k (avInt (f i j))) := by
  obtain ⟨h1, h2, h3, h4, h5⟩ := h
  obtain ⟨c, t, fr, hb, hf, hc2, hv⟩ := h5 (by omega)
  obtain ⟨hk, x, hx, hd⟩ := hv i hi j _ hj
  obtain ⟨n, e | e⟩ := hk <;> rw [e] at hd ⊢ <;> simp [den] at hd <;> subst hd <;> simp [World.cell?, hb, hx, avInt]
end Go.Ev
